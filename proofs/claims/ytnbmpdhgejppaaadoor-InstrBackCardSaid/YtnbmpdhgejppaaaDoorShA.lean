/- strconv.FormatInt, strings.Join, as what pure functions tell. -/
import Derived.Test.YtnbmpdhgejppaaaDoorBa
import Derived.Test.YtnbmpdhgejppaaaDoorRaw
import Derived.Test.YtnbmpdhgejppaaaDoorShf
import Derived.Lib.AppendIntMem
set_option linter.all false
set_option maxRecDepth 20000
namespace Go.Proofs.YtnbmpdhgejppaaaDoor
open Go.Nk Go.RowKit

noncomputable def s_FmtI : List DV → Prop × DV := spec2 eI eI fun n b => (okI64 n ∧ b = 10, .str (Lib.itoa n))
theorem s_FmtI_at (n b : Int) : s_FmtI [.int .i64 n, .int .i64 b] = (okI64 n ∧ b = 10, .str (Lib.itoa n)) := spec2_at inj_I inj_I _ _ _
theorem ok_strconv_FormatInt : OkP Tryd.prog 24 s_FmtI := by
  refine rawP2 fun n b h => ⟨by kernel_rfl, ?_⟩
  obtain ⟨⟨h1, h2⟩, rfl⟩ := h
  intro K F w args hF hK hX ha
  obtain ⟨v, u, rfl, hv, hu⟩ := args2 ha
  have fin := tell_str hF hK (Lib.itoa n)
  have e1 := hv.int_inv
  have e2 := hu.int_inv
  subst e1 e2
  refine (Tryd.strconv_FormatInt_10 n h1 (by omega) w (Env.tab_var hX)).mono ?_
  rintro e w' ⟨he, k, os, rfl⟩
  exact fin e _ ⟨he, Lib.below_grow _ _ (Nat.le_refl _) _ _⟩

noncomputable def s_Itoa : List DV → Prop × DV := spec1 eI fun n => (okI64 n, .str (Lib.itoa n))
theorem s_Itoa_at (n : Int) : s_Itoa [.int .i64 n] = (okI64 n, .str (Lib.itoa n)) := spec1_at inj_I _ n
theorem ok_strconv_Itoa : OkP Tryd.prog 22 s_Itoa := by
  refine rawP1 fun n h => ⟨by kernel_rfl, ?_⟩
  obtain ⟨h1, h2⟩ := h
  intro K F w args hF hK hX ha
  obtain ⟨v, rfl, hv⟩ := args1 ha
  have fin := tell_str hF hK (Lib.itoa n)
  have e1 := hv.int_inv
  subst e1
  refine (Tryd.strconv_Itoa n h1 (by omega) w (Env.tab_var hX)).mono ?_
  rintro e w' ⟨he, k, os, rfl⟩
  exact fin e _ ⟨he, Lib.below_grow _ _ (Nat.le_refl _) _ _⟩
def okJoin (l : List (List UInt8)) (s : List UInt8) : Prop := l.length ≤ 1000000 ∧ (Lib.join l s).length ≤ 1000000000
noncomputable def s_Join : List DV → Prop × DV := spec2 eSs eS fun l s => (okJoin l s, .str (Lib.join l s))
theorem s_Join_at (l : List (List UInt8)) (s : List UInt8) : s_Join [.sl (sls l), .str s] = (okJoin l s, .str (Lib.join l s)) := spec2_at inj_Ss inj_S _ _ _
theorem ok_strings_Join : OkP Tryd.prog 25 s_Join := by
  refine rawP2 fun l s h => ⟨by kernel_rfl, ?_⟩
  obtain ⟨h1, h2⟩ := h
  intro K F w args hF hK hX ha
  obtain ⟨v, u, rfl, hv, hu⟩ := args2 ha
  have fin := tell_str hF hK (Lib.join l s)
  have e2 := hu.str_inv
  subst e2
  cases hv with
  | imm hv =>
    cases hv with
    | sl es A n c a z cv hn hnc hA hz hc hr =>
      subst hn
      by_cases hl : l = []
      · subst hl
        refine (Tryd.strings_Join_none A c ⟨s.toArray⟩ w).mono ?_
        rintro e w' ⟨he, rfl⟩
        exact fin e _ ⟨he, Below.refl _ _⟩
      · have hls : sls l ≠ [] := by simpa [sls] using hl
        obtain ⟨hA1, hA2, hA3⟩ := hA hls
        subst hA1
        obtain ⟨blk, off, sp⟩ := a
        simp only at hA2
        subst hA2
        have hz1 : z = 1 := by
          obtain ⟨x, l', rfl⟩ := List.exists_cons_of_ne_nil hl
          have := hz 0 [.str x] rfl
          simpa using this.symm
        subst hz1
        have hcell : ∀ (j : Nat) x, (l.map fun b => (⟨b.toArray⟩ : ByteArray))[j]? = some x → w.cell? ⟨blk, off + j, none⟩ = some (.string x) := by
          intro k x hk
          rw [List.getElem?_map, Option.map_eq_some_iff] at hk
          obtain ⟨b, hb, rfl⟩ := hk
          have e1 : cellAt (sls l) k 0 = some (.str b) := by simp [cellAt, sls, hb]
          have c1 := (hc k 0 _ e1).1
          have r1 := hr k 0 _ e1
          generalize cv k 0 = v0 at *
          cases r1
          simpa using c1
        have hm : (l.map fun b => (⟨b.toArray⟩ : ByteArray)).map (fun x => x.data.toList) = l := by
          rw [List.map_map]; simp [Function.comp_def]
        have hj := Tryd.strings_Join blk off c (l.map fun b => (⟨b.toArray⟩ : ByteArray)) ⟨s.toArray⟩ w hcell (hF _ hA3) (by rw [List.length_map]; omega) (by rw [List.length_map]; rw [sls_len] at hnc; omega) (by rw [hm]; simp only [List.toList_toArray]; omega)
        rw [List.length_map, hm] at hj
        rw [sls_len]
        exact hj.mono fin
end Go.Proofs.YtnbmpdhgejppaaaDoor
