/-
  cell: rows of keys in order, the plain law; a key's text: the walks.
-/
import Derived.Test.YtemgelifnjefoaaGreatDoorCell2
import Derived.Test.YtemgelifnjefoaaGreatDoorCmpW
import Derived.Test.YtemgelifnjefoaaGreatDoorBuild2
namespace Go.Proofs.YtemgelifnjefoaaGreatDoor
open Go.Vm

/-! The plain law of rows in order. -/
abbrev RisC (l : List CeD) : Prop := l.Pairwise fun x y => lessF x y = true
theorem mem_withC : ∀ {l : List CeD} {n x : CeD}, x ∈ withC l n ↔ x ∈ l ∨ x = n
  | [], n, x => by simp [withC]
  | y :: r, n, x => by
    unfold withC
    split
    · simp only [List.mem_cons, mem_withC, or_assoc]
    · split
      · rename_i e
        subst e
        simp only [List.mem_cons]
        constructor
        · exact .inl
        · rintro (h | h)
          · exact h
          · exact .inl h
      · simp only [List.mem_cons]
        constructor
        · rintro (h | h | h)
          · exact .inr h
          · exact .inl (.inl h)
          · exact .inl (.inr h)
        · rintro ((h | h) | h)
          · exact .inr (.inl h)
          · exact .inr (.inr h)
          · exact .inl h
theorem ris_withC : ∀ {l : List CeD} {n : CeD}, RisC l → RisC (withC l n)
  | [], n, _ => by simp [withC, RisC]
  | y :: r, n, h => by
    obtain ⟨h1, h2⟩ := List.pairwise_cons.1 h
    unfold withC
    split
    · rename_i hlt
      refine List.pairwise_cons.2 ⟨fun x hx => ?_, ris_withC h2⟩
      rcases mem_withC.1 hx with h3 | h3
      · exact h1 x h3
      · subst h3; exact hlt
    · rename_i hge
      split
      · exact h
      · rename_i hne
        have hny : lessF n y = true := by
          cases e : lessF n y with
          | true => rfl
          | false => exact absurd (less_tri (by simpa using hge) e) hne
        refine List.pairwise_cons.2 ⟨fun x hx => ?_, h⟩
        rcases List.mem_cons.1 hx with h3 | h3
        · subst h3; exact hny
        · exact less_trans hny (h1 x h3)
theorem ris_ext : ∀ {a b : List CeD}, RisC a → RisC b → (∀ x, x ∈ a ↔ x ∈ b) → a = b
  | [], [], _, _, _ => rfl
  | [], y :: b, _, _, h => by have := (h y).2 (by simp); simp at this
  | x :: a, [], _, _, h => by have := (h x).1 (by simp); simp at this
  | x :: a, y :: b, ha, hb, h => by
    obtain ⟨a1, a2⟩ := List.pairwise_cons.1 ha
    obtain ⟨b1, b2⟩ := List.pairwise_cons.1 hb
    have e : x = y := by
      have h1 := (h x).1 (by simp)
      have h2 := (h y).2 (by simp)
      rcases List.mem_cons.1 h1 with h3 | h3
      · exact h3
      · rcases List.mem_cons.1 h2 with h4 | h4
        · exact h4.symm
        · have := less_trans (b1 x h3) (a1 y h4)
          rw [less_irr] at this
          cases this
    subst e
    congr 1
    refine ris_ext a2 b2 (fun z => ?_)
    have hz := h z
    simp only [List.mem_cons] at hz
    constructor
    · intro hm
      rcases hz.1 (.inr hm) with h3 | h3
      · subst h3
        have := a1 _ hm
        rw [less_irr] at this
        cases this
      · exact h3
    · intro hm
      rcases hz.2 (.inr hm) with h3 | h3
      · subst h3
        have := b1 _ hm
        rw [less_irr] at this
        cases this
      · exact h3
theorem ris_fold : ∀ {m l : List CeD}, RisC l → RisC (m.foldl withC l)
  | [], _, h => h
  | x :: r, l, h => ris_fold (m := r) (ris_withC h)
theorem mem_foldC : ∀ {m l : List CeD} {x : CeD}, x ∈ m.foldl withC l ↔ x ∈ l ∨ x ∈ m
  | [], l, x => by simp
  | y :: r, l, x => by
    rw [List.foldl_cons, mem_foldC, mem_withC, List.mem_cons, or_assoc]
theorem mem_ddL : ∀ {l : List CeD} {x : CeD}, x ∈ ddL l ↔ x ∈ l
  | [], x => by simp [ddL]
  | [y], x => by simp [ddL]
  | y :: z :: r, x => by
    by_cases e : y = z
    · subst e
      rw [ddL_eq, mem_ddL]
      simp
    · rw [ddL_ne e, List.mem_cons, mem_ddL]
      simp
theorem ris_ddL : ∀ {l : List CeD}, l.Pairwise (fun x y => lessF y x = false) → RisC (ddL l)
  | [], _ => by simp [ddL, RisC]
  | [y], _ => by simp [ddL, RisC]
  | y :: z :: r, h => by
    obtain ⟨h1, h2⟩ := List.pairwise_cons.1 h
    by_cases e : y = z
    · subst e
      rw [ddL_eq]
      exact ris_ddL h2
    · rw [ddL_ne e]
      refine List.pairwise_cons.2 ⟨fun x hx => ?_, ris_ddL h2⟩
      have hyz : lessF y z = true := by
        cases k : lessF y z with
        | true => rfl
        | false => exact absurd (less_tri k (h1 z (by simp))) e
      rcases List.mem_cons.1 (mem_ddL.1 hx) with rfl | hx
      · exact hyz
      · have hzx := (List.pairwise_cons.1 h2).1 x hx
        cases k : lessF z x with
        | true => exact less_trans hyz k
        | false => rw [less_tri k hzx] at hyz; exact hyz
/-- In order. -/
def srt (l : List CeD) : List CeD := l.mergeSort fun x y => !decide (cmpC y x < 0)
theorem srt_len (l : List CeD) : (srt l).length = l.length := by simp [srt]
theorem sort_ris (l : List CeD) : RisC (ddL (srt l)) := by
  refine ris_ddL ?_
  have tr : ∀ a b c : CeD, (!decide (cmpC b a < 0)) = true → (!decide (cmpC c b < 0)) = true → (!decide (cmpC c a < 0)) = true := fun a b c h k => by
    rw [cmpC_less] at *
    cases e : lessF c a with
    | false => rfl
    | true =>
      exfalso
      cases e2 : lessF a b with
      | true =>
        have := less_trans e e2
        rw [this] at k; cases k
      | false =>
        have hba : lessF b a = false := by simpa using h
        have := less_tri e2 hba
        subst this
        rw [e] at k; cases k
  have tot : ∀ a b : CeD, ((!decide (cmpC b a < 0)) || (!decide (cmpC a b < 0))) = true := fun a b => by
    rw [cmpC_less, cmpC_less]
    cases e : lessF b a with
    | false => rfl
    | true => rw [less_asym e]; rfl
  have := List.pairwise_mergeSort (le := fun x y : CeD => !decide (cmpC y x < 0)) tr tot l
  refine List.Pairwise.imp (fun {a b} hab => ?_) this
  rw [cmpC_less] at hab
  simpa using hab
theorem mem_sortC {l : List CeD} {x : CeD} : x ∈ ddL (srt l) ↔ x ∈ l := by
  rw [mem_ddL]
  exact (List.mergeSort_perm l _).mem_iff
theorem sort_law (l : List CeD) : ddL (srt l) = l.foldl withC [] :=
  ris_ext (sort_ris l) (ris_fold List.Pairwise.nil) fun x => by
    rw [mem_sortC, mem_foldC]
    simp
theorem ddL_len : ∀ l : List CeD, (ddL l).length ≤ l.length
  | [] => by simp [ddL]
  | [y] => by simp [ddL]
  | y :: z :: r => by
    have := ddL_len (z :: r)
    unfold ddL
    split
    · simp only [List.length_cons] at *; omega
    · simp only [List.length_cons] at *; omega
theorem sortC_len (l : List CeD) : (ddL (srt l)).length ≤ l.length := by
  have h1 := ddL_len (srt l)
  have h2 := srt_len l
  omega

noncomputable def env_csort (l : List CeD) : Env where
  P := Tryz.prog
  ty := tys0
  specs := specsOf [sp_clone]
  upd := updsOf [sp_sort, so_compactO.upd]
noncomputable def g_csort (l : List CeD) : Prop := vc (env_csort l) (codeOf Tryz.f14) (start0 Tryz.f14 [.list .tmp Ce l]) (exitK (tsOf Tryz.f14) [.list .part Ce] (l.foldl withC [], ()))
def g_csort_vc (l : List CeD) : Prop :=
  l.length ≤ (1000000000 : Nat) ∧ l.length ≤ (1000000000 : Nat) ∧ (l.mergeSort fun x y => !decide (cmpC y x < (0 : Int))).length ≤ (1000000000 : Nat) ∧ (ddL (l.mergeSort fun x y => !decide (cmpC y x < (0 : Int))), ()) = (List.foldl withC [] l, ())
theorem g_csort_eq (l : List CeD) : g_csort l = g_csort_vc l := by kernel_rfl
theorem g_csort_ok (l : List CeD) (h : l.length ≤ 1000000) : g_csort_vc l := by
  unfold g_csort_vc
  have hl := srt_len l
  unfold srt at hl
  exact ⟨by omega, by omega, by omega, by rw [← sort_law]; rfl⟩
set_option maxRecDepth 20000 in
theorem csort_pure (l : List CeD) (h : l.length ≤ 1000000) : Pure Tryz.prog 14 [.list .tmp Ce l] (.list .part Ce (l.foldl withC [])) :=
  Pure.of_g (E := env_csort l) (ts := tsOf Tryz.f14) (ps := [.list .part Ce]) (r := (l.foldl withC [], ())) (fn := Tryz.f14) (c := codeOf Tryz.f14) (specs_ok (P := Tryz.prog) rfl [sp_clone] [sp_sort, so_compactO.upd] rfl rfl) mixed Tryz.func14 rfl rfl (g := g_csort l) (by delta g_csort start0; first | with_reducible exact Eq.refl _ | exact Eq.refl _) (by rw [g_csort_eq l]; exact g_csort_ok l h)
noncomputable def q_csort (l : List CeD) : Prop × V := (l.length ≤ 1000000, (.list .part Ce (l.foldl withC [])))
noncomputable def sp_csort : FSpec Tryz.prog where
  f := 14
  run := fun args => match args with
    | [v0] => (match (asL Ce v0 : Option (List CeD)) with | some l => some (q_csort l) | none => none)
    | _ => none
  ok := fun args pre r h hp => by
    try dsimp only at h
    split at h
    · rename_i v0
      cases h0 : (asL Ce v0 : Option (List CeD)) with
      | none => rw [h0] at h; cases h
      | some l =>
      rw [h0] at h
      try dsimp only at h
      have h := Option.some.inj h
      unfold q_csort at h
      cases h
      exact (csort_pure l hp).weak (.cons (asL_weak h0) .nil)
    · cases h

/-! The words, and a key's text. -/
def wordsL : List (List UInt8) := [[109, 111, 118, 101], [98, 97, 108, 97, 110, 99, 101], [116, 114, 97, 110, 115], [112, 97, 114, 101, 110, 116], [109, 105, 110, 111, 114], [101, 108, 105, 109], [99, 111, 110, 115]]
noncomputable def tys1 : TypeId → Option Ty := fun | 9 => some .str | t => tys0 t
noncomputable def env_words : Env where
  P := Tryz.prog
  ty := tys1
noncomputable def g_words  : Prop := vc (env_words ) (codeOf Tryz.f16) (start0 Tryz.f16 []) (exitK (tsOf Tryz.f16) [.list .part .str] (wordsL, ()))
def g_words_vc : Prop :=
  ([[(109 : UInt8), (111 : UInt8), (118 : UInt8), (101 : UInt8)], [(98 : UInt8), (97 : UInt8), (108 : UInt8), (97 : UInt8), (110 : UInt8), (99 : UInt8), (101 : UInt8)], [(116 : UInt8), (114 : UInt8), (97 : UInt8), (110 : UInt8), (115 : UInt8)], [(112 : UInt8), (97 : UInt8), (114 : UInt8), (101 : UInt8), (110 : UInt8), (116 : UInt8)], [(109 : UInt8), (105 : UInt8), (110 : UInt8), (111 : UInt8), (114 : UInt8)], [(101 : UInt8), (108 : UInt8), (105 : UInt8), (109 : UInt8)], [(99 : UInt8), (111 : UInt8), (110 : UInt8), (115 : UInt8)]], ()) = (wordsL, ())
theorem g_words_eq  : g_words  = g_words_vc  := by kernel_rfl
theorem g_words_ok : g_words_vc := by
  unfold g_words_vc
  exact rfl
set_option maxRecDepth 20000 in
theorem words_pure  : Pure Tryz.prog 16 [] (.list .part .str wordsL) :=
  Pure.of_g (E := env_words ) (ts := tsOf Tryz.f16) (ps := [.list .part .str]) (r := (wordsL, ())) (fn := Tryz.f16) (c := codeOf Tryz.f16) (specs_ok (P := Tryz.prog) rfl [] [] rfl rfl) mixed Tryz.func16 rfl rfl (g := g_words ) (by delta g_words start0; first | with_reducible exact Eq.refl _ | exact Eq.refl _) (by rw [g_words_eq ]; exact g_words_ok )
noncomputable def q_words  : Prop × V := (True, (.list .part .str wordsL))
noncomputable def sp_words : FSpec Tryz.prog where
  f := 16
  run := fun args => match args with
    | [] => some (q_words )
    | _ => none
  ok := fun args pre r h hp => by
    try dsimp only at h
    split at h
    ·
      have h := Option.some.inj h
      unfold q_words at h
      cases h
      exact (words_pure ).weak .nil
    · cases h

end Go.Proofs.YtemgelifnjefoaaGreatDoor
