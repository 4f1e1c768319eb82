/- ReaderBack at the data level (under way). -/
import Derived.Test.YtpohoagllmocnaaRb2
set_option linter.unusedSimpArgs false
set_option linter.unusedVariables false
set_option maxRecDepth 20000
namespace Go.Proofs.Ytpohoagllmocnaa
open Go.Nk

noncomputable def s_okB := orS (s_wNil (.bool true)) s_wOk
noncomputable def s_bytesB := orS (s_wNil .nil) s_wBytes
theorem ok_okB : OkH Try.prog 31 s_okB := OkH.or ok_wOkN ok_wOk
theorem ok_bytesB : OkH Try.prog 32 s_bytesB := OkH.or ok_wBytesN ok_wBytes
theorem okB_nilp (hp : List DObj) : s_okB [.nilp] hp = ⟨True, .bool false, hp⟩ := (orS_r (s_wNil_nilp _ hp)).trans (s_wOk_nil hp)
theorem bytesB_nilp (hp : List DObj) : s_bytesB [.nilp] hp = ⟨True, .nil, hp⟩ := (orS_r (s_wNil_nilp _ hp)).trans (s_wBytes_nil hp)
theorem okB_at {hp : List DObj} {n m : Nat} {b : List UInt8} (hw : isW true hp n m (some b)) : s_okB [.ptr n 1 0 0] hp = ⟨True, .bool true, hp⟩ := (orS_r (s_wNil_no _ hw)).trans (s_wOk_at hw)
theorem okB_bad {hp : List DObj} {n : Nat} (hw : isW true hp n 0 none) : s_okB [.ptr n 1 0 0] hp = ⟨True, .bool false, hp⟩ := (orS_r (s_wNil_no _ hw)).trans (s_wOk_bad hw)
theorem okB_new {hp : List DObj} {n : Nat} (h : hp[n]? = some ⟨.loc, 2, [[.nil, .bool true]]⟩) : s_okB [.ptr n 1 0 0] hp = ⟨True, .bool true, hp⟩ := orS_l (s_wNil_at _ h)
theorem bytesB_at {hp : List DObj} {n m : Nat} {b : List UInt8} (hw : isW true hp n m (some b)) : s_bytesB [.ptr n 1 0 0] hp = ⟨b ≠ [] ∧ b.length ≤ 4294967296, .own hp.length b.length 0 b.length, hp ++ [⟨.imm, 1, bsl b⟩]⟩ := (orS_r (s_wNil_no _ hw)).trans (s_wBytes_at hw)
theorem bytesB_bad {hp : List DObj} {n : Nat} (hw : isW true hp n 0 none) : s_bytesB [.ptr n 1 0 0] hp = ⟨True, .nil, hp⟩ := (orS_r (s_wNil_no _ hw)).trans (s_wBytes_bad hw)
theorem bytesB_new {hp : List DObj} {n : Nat} (h : hp[n]? = some ⟨.loc, 2, [[.nil, .bool true]]⟩) : s_bytesB [.ptr n 1 0 0] hp = ⟨True, .nil, hp⟩ := orS_l (s_wNil_at _ h)
noncomputable abbrev hsB : List (FuncId × (List DV → List DObj → Res)) := [(22, s_wNew), (23, s_wNum), (25, s_wInt), (27, s_wText), (29, s_wPart), (31, s_okB), (32, s_bytesB),
  (7, s_rFromB), (9, s_Num), (11, s_rInt), (13, s_rText), (16, s_rPart), (18, s_Ok), (19, s_At), (20, s_More)]
noncomputable abbrev psB : List (FuncId × (List DV → Prop × DV)) := [(6, s_live)]
noncomputable def CB : Orc := Orc.of psB hsB
theorem CB_New : CB.h 22 = s_wNew := rfl
theorem CB_wNum : CB.h 23 = s_wNum := rfl
theorem CB_wInt : CB.h 25 = s_wInt := rfl
theorem CB_wText : CB.h 27 = s_wText := rfl
theorem CB_wPart : CB.h 29 = s_wPart := rfl
theorem CB_wOk : CB.h 31 = s_okB := rfl
theorem CB_wBytes : CB.h 32 = s_bytesB := rfl
theorem CB_From : CB.h 7 = s_rFromB := rfl
theorem CB_Num : CB.h 9 = s_Num := rfl
theorem CB_Int : CB.h 11 = s_rInt := rfl
theorem CB_Text : CB.h 13 = s_rText := rfl
theorem CB_Part : CB.h 16 = s_rPart := rfl
theorem CB_Ok : CB.h 18 = s_Ok := rfl
theorem CB_At : CB.h 19 = s_At := rfl
theorem CB_More : CB.h 20 = s_More := rfl
theorem CB_live : CB.p 6 = s_live := rfl
end Go.Proofs.Ytpohoagllmocnaa
