/- Writers: two objects, the struct and the bytes; what each function tells, and makes of them. -/
import Derived.Test.YtfaailjhioobhaaGreatRdLive
set_option linter.all false
set_option maxRecDepth 20000
namespace Go.Proofs.YtfaailjhioobhaaGreat
open Go.Nk
abbrev WS := Option (List UInt8)
def isW (g : Bool) (hp : List DObj) (n m : Nat) : WS → Prop
 | some b => hp[n]? = some ⟨.loc,2,[[.own m b.length 0 b.length,.bool g]]⟩ ∧ hp[m]? = some ⟨.imm,1,bsl b⟩ ∧ n ≠ m
 | none => hp[n]? = some ⟨.loc,2,[[.nil,.bool (!g)]]⟩
def setW (g : Bool) (hp : List DObj) (n m : Nat) : WS → List DObj
 | some b => (hp.set m ⟨.imm,1,bsl b⟩).set n ⟨.loc,2,[[.own m b.length 0 b.length,.bool g]]⟩
 | none => hp.set n ⟨.loc,2,[[.nil,.bool (!g)]]⟩
theorem zh9 {g : Bool} {hp : List DObj} {n m : Nat} {s : WS} (h : isW g hp n m s) : n < hp.length := by
 cases s with
 | some b => exact (List.getElem?_eq_some_iff.1 h.1).1
 | none => exact (List.getElem?_eq_some_iff.1 h).1
theorem zi2 {g : Bool} {hp : List DObj} {n m : Nat} {b : List UInt8} (h : isW g hp n m (some b)) : m < hp.length := (List.getElem?_eq_some_iff.1 h.2.1).1
theorem set_w {g : Bool} {hp : List DObj} {n m : Nat} {s : WS} (h : isW g hp n m s) : setW g hp n m s = hp := by
 cases s with
 | some b =>
   show (hp.set m _).set n _ = hp
   rw [zb8 h.2.1,zb8 h.1]
 | none => exact zb8 h
def fW {α : Type} (g : Bool) (f : List UInt8 → α → Prop × DV × WS) : List DObj → Nat → Nat → List UInt8 → α → Res := fun hp n m b a => ⟨(f b a).1,(f b a).2.1,setW g hp n m (f b a).2.2⟩
open Classical in
noncomputable def zho {α : Type} (g : Bool) (args : α → List DV) (f : List DObj → Nat → Nat → List UInt8 → α → Res) (d : α → Prop × DV) (z : α → Prop × DV) : List DV → List DObj → Res := fun a hp =>
 if h : ∃ x : Nat × Nat × List UInt8 × α,a = .ptr x.1 1 0 0 :: args x.2.2.2 ∧ isW g hp x.1 x.2.1 (some x.2.2.1) then
   f hp h.choose.1 h.choose.2.1 h.choose.2.2.1 h.choose.2.2.2
 else if h : ∃ x : Nat × α,a = .ptr x.1 1 0 0 :: args x.2 ∧ isW g hp x.1 0 none then ⟨(d h.choose.2).1,(d h.choose.2).2,hp⟩
 else if h : ∃ x : α,a = .nilp :: args x then ⟨(z h.choose).1,(z h.choose).2,hp⟩
 else no
section
variable {α : Type} {g : Bool} {args : α → List DV} {f : List DObj → Nat → Nat → List UInt8 → α → Res} {d : α → Prop × DV} {z : α → Prop × DV}
theorem zfy (ha : InjL args) {hp : List DObj} {n m : Nat} {b : List UInt8} (hw : isW g hp n m (some b)) (a : α) :
   zho g args f d z (.ptr n 1 0 0 :: args a) hp = f hp n m b a := by
 unfold zho
 have hx : ∃ x : Nat × Nat × List UInt8 × α,.ptr n 1 0 0 :: args a = .ptr x.1 1 0 0 :: args x.2.2.2 ∧ isW g hp x.1 x.2.1 (some x.2.2.1) := ⟨(n,m,b,a),rfl,hw⟩
 rw [dif_pos hx]
 have hy := hx.choose_spec
 generalize hx.choose = x at hy ⊢
 obtain ⟨n',m',b',a'⟩ := x
 obtain ⟨h1,h2⟩ := hy
 dsimp only at *
 have h3 := List.cons.inj h1
 injection h3.1 with h4
 subst h4
 have h5 := ha _ _ h3.2
 subst h5
 have h6 := hw.1.symm.trans h2.1
 simp only [Option.some.injEq,DObj.mk.injEq,List.cons.injEq,DV.own.injEq,and_true,true_and] at h6
 obtain ⟨rfl,_⟩ := h6
 have h7 := hw.2.1.symm.trans h2.2.1
 simp only [Option.some.injEq,DObj.mk.injEq,true_and] at h7
 rw [zfo h7]
theorem zgf (ha : InjL args) {hp : List DObj} {n : Nat} (hw : isW g hp n 0 none) (a : α) : zho g args f d z (.ptr n 1 0 0 :: args a) hp = ⟨(d a).1,(d a).2,hp⟩ := by
 unfold zho
 have hn : ¬ ∃ x : Nat × Nat × List UInt8 × α,.ptr n 1 0 0 :: args a = .ptr x.1 1 0 0 :: args x.2.2.2 ∧ isW g hp x.1 x.2.1 (some x.2.2.1) := by
   rintro ⟨⟨n',m',b',a'⟩,h1,h2⟩
   injection (List.cons.inj h1).1 with h4
   dsimp only at h4 h2
   subst h4
   have h6 := (show hp[n]? = _ from hw).symm.trans h2.1
   simp at h6
 rw [dif_neg hn]
 have hx : ∃ x : Nat × α,.ptr n 1 0 0 :: args a = .ptr x.1 1 0 0 :: args x.2 ∧ isW g hp x.1 0 none := ⟨(n,a),rfl,hw⟩
 rw [dif_pos hx]
 have hy := hx.choose_spec
 generalize hx.choose = x at hy ⊢
 have h5 := ha _ _ (List.cons.inj hy.1).2
 rw [← h5]
theorem ya9 (ha : InjL args) (hp : List DObj) (a : α) : zho g args f d z (.nilp :: args a) hp = ⟨(z a).1,(z a).2,hp⟩ := by
 unfold zho
 have hn : ¬ ∃ x : Nat × Nat × List UInt8 × α,.nilp :: args a = .ptr x.1 1 0 0 :: args x.2.2.2 ∧ isW g hp x.1 x.2.1 (some x.2.2.1) := by
   rintro ⟨x,h1,_⟩; cases (List.cons.inj h1).1
 have hn2 : ¬ ∃ x : Nat × α,.nilp :: args a = .ptr x.1 1 0 0 :: args x.2 ∧ isW g hp x.1 0 none := by
   rintro ⟨x,h1,_⟩; cases (List.cons.inj h1).1
 rw [dif_neg hn,dif_neg hn2]
 have hx : ∃ x : α,.nilp :: args a = .nilp :: args x := ⟨a,rfl⟩
 rw [dif_pos hx]
 have hy := hx.choose_spec
 generalize hx.choose = x at hy ⊢
 have h5 := ha _ _ (List.cons.inj hy).2
 rw [← h5]
theorem OkH.mkW {P : Program} {ps hs} {fn : FuncId} {df : DFun} {N : Nat} (h1 : AllP P ps) (h2 : AllH P hs) (hm : mFun P fn N df = true) (hN : ∀ a,(args a).length + 1 = N)
   (k : ∀ n m hp b a,isW g hp n m (some b) → n < hp.length → m < hp.length → (f hp n m b a).pre → dwp (Orc.of ps hs) hp.length df.code (EndH df.res (f hp n m b a).val (f hp n m b a).hp) ⟨(0,.ptr n 1 0 0) :: za 1 (args a),hp⟩)
   (kb : ∀ n hp a,isW g hp n 0 none → n < hp.length → (d a).1 → dwp (Orc.of ps hs) hp.length df.code (EndH df.res (d a).2 hp) ⟨(0,.ptr n 1 0 0) :: za 1 (args a),hp⟩)
   (kn : ∀ hp a,(z a).1 → dwp (Orc.of ps hs) hp.length df.code (EndH df.res (z a).2 hp) ⟨(0,.nilp) :: za 1 (args a),hp⟩) : OkH P fn (zho g args f d z) := by
 refine OkH.mk h1 h2 hm fun a hp hpre => ?_
 unfold zho at hpre ⊢
 split at hpre
 · rename_i h
   rw [dif_pos h]
   have hx := h.choose_spec
   generalize h.choose = x at hx hpre ⊢
   obtain ⟨rfl,hx⟩ := hx
   exact ⟨hN _,k _ _ _ _ _ hx (zh9 hx) (zi2 hx) hpre⟩
 · rename_i h
   rw [dif_neg h]
   split at hpre
   · rename_i h'
     rw [dif_pos h']
     have hx := h'.choose_spec
     generalize h'.choose = x at hx hpre ⊢
     obtain ⟨rfl,hx⟩ := hx
     exact ⟨hN _,kb _ _ _ hx (zh9 hx) hpre⟩
   · rename_i h'
     rw [dif_neg h']
     split at hpre
     · rename_i h''
       rw [dif_pos h'']
       have hx := h''.choose_spec
       generalize h''.choose = x at hx hpre ⊢
       subst hx
       exact ⟨hN _,kn _ _ hpre⟩
     · exact hpre.elim
end
noncomputable def zvk : List DV → List DObj → Res := zho true (fun _ : Unit => []) (fW true fun b _ => (True,.bool true,some b)) (fun _ => (True,.bool false)) (fun _ => (True,.bool false))
theorem zsd {hp : List DObj} {n m : Nat} {b : List UInt8} (hw : isW true hp n m (some b)) : zvk [.ptr n 1 0 0] hp = ⟨True,.bool true,hp⟩ := by
 refine (zfy (zbc _) hw ()).trans ?_
 unfold fW
 rw [set_w hw]
theorem zoy {hp : List DObj} {n : Nat} (hw : isW true hp n 0 none) : zvk [.ptr n 1 0 0] hp = ⟨True,.bool false,hp⟩ := zgf (zbc _) hw ()
theorem ztm (hp : List DObj) : zvk [.nilp] hp = ⟨True,.bool false,hp⟩ := ya9 (zbc _) hp ()
theorem z5p : OkH Tryz.prog 57 zvk := by
 refine OkH.mkW (ps := []) (hs := []) trivial trivial zhh (fun _ => rfl) (fun n m hp b a hw hn hm h => ?_) (fun n hp a hw hn _ => ?_) (fun hp a h => ?_)
 · have hh := hw.1
   unfold fW
   rw [set_w hw]
   simp only [↓sqP,sqT,zbz,List.drop_succ_cons,zc,zm,dval,za,Nat.reduceEqDiff,↓reduceIte,zg,zb,retV,DR.val,reduceCtorEq,List.length_cons,List.length_nil,List.getD_cons_zero,alive,List.drop_zero,ne_eq,hh]
 · have hh : hp[n]? = some ⟨.loc,2,[[.nil,.bool false]]⟩ := hw
   simp only [↓sqP,sqT,zbz,List.drop_succ_cons,zc,zm,dval,za,Nat.reduceEqDiff,↓reduceIte,zg,zb,retV,DR.val,reduceCtorEq,List.length_cons,List.length_nil,List.getD_cons_zero,alive,List.drop_zero,ne_eq,hh]
 · simp only [↓sqP,sqT,zbz,zc,zm,dval,za,Nat.reduceEqDiff,↓reduceIte,retV,DR.val,Bool.false_eq_true,reduceCtorEq,dPeq]
noncomputable def z2p : List DV → List DObj → Res := zho true (fun c : List UInt8 => [.sl (bsl c)]) (fW true fun b c => (b.length + c.length ≤ 4294967296,.tup [],some (b ++ c))) (fun _ => (True,.tup [])) (fun _ => (True,.tup []))
theorem zp9 : InjL (fun c : List UInt8 => [DV.sl (bsl c)]) := fun x y h => by
 simp only [List.cons.injEq,DV.sl.injEq,and_true] at h
 exact zfo h
theorem zsm {hp : List DObj} {n m : Nat} {b : List UInt8} (hw : isW true hp n m (some b)) (c : List UInt8) : z2p [.ptr n 1 0 0,.sl (bsl c)] hp = ⟨b.length + c.length ≤ 4294967296,.tup [],setW true hp n m (some (b ++ c))⟩ := zfy zp9 hw c
theorem zic {hp : List DObj} {n : Nat} (hw : isW true hp n 0 none) (c : List UInt8) : z2p [.ptr n 1 0 0,.sl (bsl c)] hp = ⟨True,.tup [],hp⟩ := zgf zp9 hw c
theorem z43 : OkH Tryz.prog 59 z2p := by
 refine OkH.mkW (ps := []) (hs := [(57,zvk)]) trivial ⟨z5p,trivial⟩ znn (fun _ => rfl) (fun n m hp b c hw hn hm h => ?_) (fun n hp c hw hn _ => ?_) (fun hp c h => ?_)
 · have o := zsd hw
   have hh := hw.1
   have h2 := hw.2.1
   have hne := hw.2.2
   have hl : b.length + c.length ≤ zal := h
   have g1 : (hp.set m ⟨.imm,1,bsl b ++ bsl c⟩)[n]? = some ⟨.loc,2,[[.own m b.length 0 b.length,.bool true]]⟩ := by rw [List.getElem?_set_ne (Ne.symm hne)]; exact hh
   have e : setW true hp n m (some (b ++ c)) = (hp.set m ⟨.imm,1,bsl b ++ bsl c⟩).set n ⟨.loc,2,[[.own m (b.length + c.length) 0 (b.length + c.length),.bool true]]⟩ := by simp only [setW,zlw,List.length_append]
   have r := zc7 (l := c)
   simp only [↓sqP,sqT,zcl,fW,↓zh,zc,dval,za,Nat.reduceEqDiff,Nat.reduceAdd,↓reduceIte,zg,zb,retV,retL,List.map_cons,List.map_nil,forall_const,reduceCtorEq,List.length_cons,List.length_nil,List.getD_cons_zero,Nat.reduceLeDiff,Nat.reduceLT,List.set_cons_zero,zi,zao,zo,DV.one,alive,List.drop_zero,List.not_mem_nil,List.forall_mem_cons,cellsOf,zf,ne_eq,o,hh,h2,hl,g1,e]
   exact r
 · have o := zoy hw
   simp only [↓sqP,sqT,zcl,↓zh,zc,dval,za,↓reduceIte,retV,retL,List.map_cons,List.map_nil,Bool.false_eq_true,o]
 · simp only [↓sqP,sqT,zcl,↓zh,zc,dval,za,↓reduceIte,retV,retL,List.map_cons,List.map_nil,Bool.false_eq_true,ztm]
end Go.Proofs.YtfaailjhioobhaaGreat
set_option linter.all false
set_option maxRecDepth 20000
namespace Go.Proofs.YtfaailjhioobhaaGreat
open Go.Nk
theorem getLast' (hp : List DObj) (a : DObj) : (hp ++ [a])[hp.length]? = some a := by simp
theorem setLast' (hp : List DObj) (a b : DObj) : (hp ++ [a]).set hp.length b = hp ++ [b] := by
 rw [List.set_append_right _ _ (Nat.le_refl _)]; simp
noncomputable def znz : List DV → List DObj → Res := fun a hp =>
 ⟨∃ (m : Nat) (b : List UInt8),a = [.own m b.length 0 b.length] ∧ hp[m]? = some ⟨.imm,1,bsl b⟩ ∧ b ≠ [] ∧ b.length ≤ 4294967296,
   match a with | [.own _ n _ _] => .own hp.length n 0 n | _ => .undef,match a with | [.own m _ _ _] => hp ++ [⟨.imm,1,(hp.getD m default).es⟩] | _ => []⟩
theorem z1e {hp : List DObj} {m : Nat} {b : List UInt8} (h : hp[m]? = some ⟨.imm,1,bsl b⟩) (h1 : b ≠ []) (h2 : b.length ≤ 4294967296) :
   znz [.own m b.length 0 b.length] hp = ⟨True,.own hp.length b.length 0 b.length,hp ++ [⟨.imm,1,bsl b⟩]⟩ := by
 unfold znz
 simp only [List.getD,h,Option.getD_some,Res.mk.injEq,and_true]
 exact eq_true ⟨m,b,rfl,h,h1,h2⟩
theorem yb5 : OkH Tryz.prog 64 znz := by
 refine OkH.mk (ps := []) (hs := []) (n := 1) trivial trivial zce fun a hp h => ?_
 obtain ⟨m,b,rfl,hm,hne,hl⟩ := h
 refine ⟨rfl,?_⟩
 have r := zc7 (l := b)
 have hb : b.length ≤ zal := hl
 have hpos : 0 < b.length := List.length_pos_iff.2 hne
 have hml : m < hp.length := (List.getElem?_eq_some_iff.1 hm).1
 have hm1 : (hp ++ [⟨.imm,1,[]⟩])[m]? = some ⟨.imm,1,bsl b⟩ := by rw [List.getElem?_append_left hml]; exact hm
 have hd : (hp.getD m default).es = bsl b := by simp [List.getD,hm]
 have tk : (bsl b).take b.length = bsl b := List.take_of_length_le (by simp [zab])
 simp only [↓sqP,sqT,zaq,↓zh,zc,dval,za,Nat.reduceEqDiff,↓reduceIte,retV,DR.val,List.map_nil,Bool.false_eq_true,forall_const,reduceCtorEq,List.length_cons,List.length_nil,List.all_nil,zi,zao,alive,List.drop_zero,List.not_mem_nil,List.nil_append,fzLL,ne_eq,List.cons.injEq,znz,hm,hm1,hpos,hd,tk,getLast',setLast',hb]
 exact ⟨Nat.le_refl _,r⟩
noncomputable def zeu : List DV → List DObj → Res := zho true (fun _ : Unit => []) (fun hp _ _ b _ => ⟨b ≠ [] ∧ b.length ≤ 4294967296,.own hp.length b.length 0 b.length,hp ++ [⟨.imm,1,bsl b⟩]⟩) (fun _ => (True,.nil)) (fun _ => (True,.nil))
theorem znv {hp : List DObj} {n m : Nat} {b : List UInt8} (hw : isW true hp n m (some b)) : zeu [.ptr n 1 0 0] hp = ⟨b ≠ [] ∧ b.length ≤ 4294967296,.own hp.length b.length 0 b.length,hp ++ [⟨.imm,1,bsl b⟩]⟩ := zfy (zbc _) hw ()
theorem zzy {hp : List DObj} {n : Nat} (hw : isW true hp n 0 none) : zeu [.ptr n 1 0 0] hp = ⟨True,.nil,hp⟩ := zgf (zbc _) hw ()
theorem zs8 : OkH Tryz.prog 24 zeu := by
 refine OkH.mkW (ps := []) (hs := [(57,zvk),(64,znz)]) trivial ⟨z5p,yb5,trivial⟩ zfk (fun _ => rfl) (fun n m hp b a hw hn hm h => ?_) (fun n hp a hw hn _ => ?_) (fun hp a h => ?_)
 · have o := zsd hw
   have c := z1e hw.2.1 h.1 h.2
   have hh := hw.1
   simp only [↓sqP,sqT,zbb,↓zh,zc,dval,za,Nat.reduceEqDiff,Nat.reduceAdd,↓reduceIte,dUn,zg,zb,retV,DR.val,List.map_cons,List.map_nil,Bool.false_eq_true,reduceCtorEq,List.length_cons,List.length_nil,List.getD_cons_zero,Nat.reduceLT,alive,List.drop_zero,ne_eq,o,c,hh]
 · have o := zoy hw
   simp only [↓sqP,sqT,zbb,↓zh,zc,dval,za,↓reduceIte,dUn,retV,DR.val,List.map_cons,List.map_nil,reduceCtorEq,o]
 · simp only [↓sqP,sqT,zbb,↓zh,zc,dval,za,↓reduceIte,dUn,retV,DR.val,List.map_cons,List.map_nil,reduceCtorEq,ztm]
def wNum (b : List UInt8) (k z : Int) : WS := if z < 1 ∨ 4 < z ∨ k < 0 ∨ ((256 ^ z.toNat : Nat) : Int) ≤ k then none else some (b ++ putL k.toNat z.toNat)
noncomputable def ze4 : List DV → List DObj → Res := zho true (fun x : Int × Int => [.int .i64 x.1,.int .i64 x.2]) (fW true fun b x => (b.length + 4 ≤ 4294967296 ∧ x.1 < 9223372036854775808,.tup [],wNum b x.1 x.2)) (fun _ => (True,.tup [])) (fun _ => (True,.tup []))
theorem zpu : InjL (fun x : Int × Int => [DV.int .i64 x.1,DV.int .i64 x.2]) := by
 rintro ⟨a,b⟩ ⟨a',b'⟩ h
 simp only [List.cons.injEq,DV.int.injEq,true_and,and_true] at h
 obtain ⟨rfl,rfl⟩ := h
 rfl
theorem zoc {hp : List DObj} {n m : Nat} {b : List UInt8} (hw : isW true hp n m (some b)) (k z : Int) : ze4 [.ptr n 1 0 0,.int .i64 k,.int .i64 z] hp = ⟨b.length + 4 ≤ 4294967296 ∧ k < 9223372036854775808,.tup [],setW true hp n m (wNum b k z)⟩ := zfy zpu hw (k,z)
theorem zl1 {hp : List DObj} {n : Nat} (hw : isW true hp n 0 none) (k z : Int) : ze4 [.ptr n 1 0 0,.int .i64 k,.int .i64 z] hp = ⟨True,.tup [],hp⟩ := zgf zpu hw (k,z)
theorem shr_zero {k : Int} {z : Nat} (h0 : 0 ≤ k) (hz : z ≤ 4) : (k.fdiv (2 ^ (min (8 * (z : Int)).toNat 64)) != 0) = decide (((256 ^ z : Nat) : Int) ≤ k) := by
 have h1 : min (8 * (z : Int)).toNat 64 = 8 * z := by omega
 have h2 : ((2 : Int) ^ (8 * z)) = ((256 ^ z : Nat) : Int) := by rw [Int.pow_mul]; norm_cast
 rw [h1,h2,Int.fdiv_eq_ediv_of_nonneg _ (Int.natCast_nonneg _)]
 have hpos : (0 : Int) < ((256 ^ z : Nat) : Int) := by have : 0 < 256 ^ z := Nat.pos_of_ne_zero (by simp); omega
 generalize ((256 ^ z : Nat) : Int) = d at *
 by_cases hd : d ≤ k
 · have h3 : 1 ≤ k / d := Int.le_ediv_of_mul_le hpos (by omega)
   have : k / d ≠ 0 := by omega
   simp [hd,this]
 · have : k / d = 0 := Int.ediv_eq_zero_of_lt h0 (by omega)
   simp [hd,this]
theorem z0n {z : Nat} (h : z ≤ 4) : 256 ^ z ≤ 4294967296 := by
 have : z = 0 ∨ z = 1 ∨ z = 2 ∨ z = 3 ∨ z = 4 := by omega
 rcases this with rfl | rfl | rfl | rfl | rfl <;> decide
theorem zhu : OkH Tryz.prog 20 ze4 := by
 refine OkH.mkW (ps := [(60,sPut)]) (hs := [(57,zvk),(58,z5a),(59,z2p)]) ⟨zrf,trivial⟩ ⟨z5p,zmn,z43,trivial⟩ zm1 (fun _ => rfl) (fun n m hp b x hw hn hm h => ?_) (fun n hp x hw hn _ => ?_) (fun hp x h => ?_)
 · obtain ⟨k,z⟩ := x
   obtain ⟨hb,hk⟩ := h
   simp only at hb hk
   have o := zsd hw
   have hh := hw.1
   have hf := zzp hh
   have en : setW true hp n m none = hp.set n ⟨.loc,2,[[.nil,.bool false]]⟩ := rfl
   by_cases h1 : z < 1
   · have d1 : decide (z < 1) = true := by simp [h1]
     have e : wNum b k z = none := by unfold wNum; rw [if_pos (.inl h1)]
     simp only [↓sqP,sqT,zak,fW,za,↓zh,zc,zm,dval,za,Nat.reduceEqDiff,Nat.reduceAdd,↓reduceIte,dBin,dInt,dUn,retV,retL,List.map_cons,List.map_nil,Bool.false_eq_true,reduceCtorEq,List.length_cons,List.length_nil,Nat.reduceLeDiff,alive,ne_eq,o,hh,hf,d1,e,en]
   have d1 : decide (z < 1) = false := by simp [h1]
   by_cases h2 : 4 < z
   · have d2 : decide (4 < z) = true := by simp [h2]
     have e : wNum b k z = none := by unfold wNum; rw [if_pos (.inr (.inl h2))]
     simp only [↓sqP,sqT,zak,fW,za,↓zh,zc,zm,dval,za,Nat.reduceEqDiff,Nat.reduceAdd,↓reduceIte,dBin,dInt,dUn,retV,retL,List.map_cons,List.map_nil,Bool.false_eq_true,reduceCtorEq,List.length_cons,List.length_nil,Nat.reduceLeDiff,alive,gt_iff_lt,ne_eq,o,hh,hf,d1,d2,e,en]
   have d2 : decide (4 < z) = false := by simp [h2]
   by_cases h3 : k < 0
   · have d3 : decide (k < 0) = true := by simp [h3]
     have e : wNum b k z = none := by unfold wNum; rw [if_pos (.inr (.inr (.inl h3)))]
     simp only [↓sqP,sqT,zak,fW,za,↓zh,zc,zm,dval,za,Nat.reduceEqDiff,Nat.reduceAdd,↓reduceIte,dBin,dInt,dUn,retV,retL,List.map_cons,List.map_nil,Bool.false_eq_true,reduceCtorEq,List.length_cons,List.length_nil,Nat.reduceLeDiff,alive,gt_iff_lt,ne_eq,o,hh,hf,d1,d2,d3,e,en]
   have d3 : decide (k < 0) = false := by simp [h3]
   obtain ⟨z',rfl⟩ : ∃ z' : Nat,z = z' := ⟨z.toNat,by omega⟩
   have hz4 : z' ≤ 4 := by omega
   have hsh := shr_zero (k := k) (z := z') (by omega) hz4
   have w8 : IntKind.i64.wrap (8 * (z' : Int)) = 8 * (z' : Int) := zt (by omega)
   have hge : (0 : Int) ≤ 8 * (z' : Int) := by omega
   by_cases h4 : ((256 ^ z' : Nat) : Int) ≤ k
   · have e : wNum b k z' = none := by unfold wNum; rw [if_pos (.inr (.inr (.inr (by simpa using h4))))]
     rw [decide_eq_true h4] at hsh
     simp only [↓sqP,sqT,zak,fW,za,↓zh,zc,zm,dval,za,Nat.reduceEqDiff,Nat.reduceAdd,↓reduceIte,dBin,dInt,dUn,retV,retL,List.map_cons,List.map_nil,Bool.false_eq_true,reduceCtorEq,List.length_cons,List.length_nil,IntKind.bits,Nat.reduceLeDiff,alive,gt_iff_lt,ne_eq,o,hh,hf,d1,d2,d3,w8,hge,hsh,e,en]
   · rw [decide_eq_false h4] at hsh
     have hp4 := z0n hz4
     have e : wNum b k z' = some (b ++ putL k.toNat z') := by
       unfold wNum
       rw [if_neg (by
         rintro (h | h | h | h)
         · exact h1 h
         · exact h2 h
         · exact h3 h
         · exact h4 (by simpa using h))]
       simp
     have wk : IntKind.u64.wrap k = k := ztl (by omega)
     have pp : sPut [.int .u64 k,.int .i64 z'] = (True,.sl (bsl (putL k.toNat z'))) := by
       have hz1 : ¬ ((z' : Int) < 1 ∨ 8 < (z' : Int)) := by omega
       have : sPut [.int .u64 k,.int .i64 z'] = (0 ≤ k ∧ k < 18446744073709551616,.sl (bsl (if (z' : Int) < 1 ∨ 8 < (z' : Int) then [] else putL k.toNat ((z' : Nat) : Int).toNat))) := rfl
       rw [this,if_neg hz1,eq_true (show 0 ≤ k ∧ k < 18446744073709551616 by omega)]
       simp
     have ly := zsm hw (putL k.toNat z')
     have hl : b.length + (putL k.toNat z').length ≤ 4294967296 := by rw [ze]; omega
     rw [eq_true hl] at ly
     simp only [↓sqP,sqT,zak,fW,za,↓zh,zc,zm,dval,za,Nat.reduceEqDiff,Nat.reduceAdd,↓reduceIte,dBin,dInt,dUn,retV,retL,fzVs,fzV,fz1,DV.immB,List.map_cons,List.map_nil,Bool.false_eq_true,reduceCtorEq,IntKind.bits,Nat.reduceLeDiff,zp,zq,z1,zz,zu,z6,gt_iff_lt,o,d1,d2,d3,w8,hge,hsh,wk,pp,ly,e]
 · have o := zoy hw
   simp only [↓sqP,sqT,zak,za,↓zh,zc,dval,za,Nat.reduceAdd,↓reduceIte,dUn,retV,retL,List.map_cons,List.map_nil,o]
 · simp only [↓sqP,sqT,zak,za,↓zh,zc,dval,za,Nat.reduceAdd,↓reduceIte,dUn,retV,retL,List.map_cons,List.map_nil,ztm]
end Go.Proofs.YtfaailjhioobhaaGreat
set_option linter.all false
set_option maxRecDepth 20000
namespace Go.Proofs.YtfaailjhioobhaaGreat
open Go.Nk
theorem zqx {g : Bool} {hp : List DObj} {n m : Nat} {b c : List UInt8} (hw : isW g hp n m (some b)) : isW g (setW g hp n m (some c)) n m (some c) := by
 have hn := zh9 hw
 have hm := zi2 hw
 refine ⟨?_,?_,hw.2.2⟩
 · exact List.getElem?_set_self (by simp; exact hn)
 · show ((hp.set m _).set n _)[m]? = _
   rw [List.getElem?_set_ne hw.2.2]
   exact List.getElem?_set_self hm
theorem zls {g : Bool} {hp : List DObj} {n m : Nat} {b : List UInt8} (hw : isW g hp n m (some b)) : isW g (setW g hp n m none) n 0 none :=
 List.getElem?_set_self (zh9 hw)
theorem zly {g : Bool} {hp : List DObj} {n m : Nat} {c e : List UInt8} (hne : n ≠ m) : setW g (setW g hp n m (some c)) n m (some e) = setW g hp n m (some e) := by
 show (((hp.set m _).set n _).set m _).set n _ = (hp.set m _).set n _
 rw [List.set_comm _ _ hne,List.set_set,List.set_set]
def wLen (b c : List UInt8) (z : Int) : WS := match wNum b c.length z with
 | some b' => some (b' ++ c)
 | none => none
theorem zto : ∀ (n : Nat) (l : List UInt8),(zsa n l).length ≤ l.length
 | 0,l => Nat.le_refl _
 | n + 1,l => by
   unfold zsa
   split
   · exact Nat.le_trans (zto n _) (by simp)
   · exact Nat.le_refl _
theorem zdk (x : Int) : (intF x).length ≤ 8 := by
 have := zto (putL (x % 18446744073709551616).toNat 8).length (putL (x % 18446744073709551616).toNat 8)
 rw [ze] at this
 unfold intF trim
 rw [ze]
 exact this
noncomputable def zwi : List DV → List DObj → Res := zho true (fun x : Int => [.int .i64 x]) (fW true fun b x => (b.length + 20 ≤ 4294967296 ∧ -9223372036854775808 ≤ x ∧ x < 9223372036854775808,.tup [],wLen b (intF x) 1)) (fun x => (-9223372036854775808 ≤ x ∧ x < 9223372036854775808,.tup [])) (fun _ => (False,.undef))
theorem ybm {hp : List DObj} {n m : Nat} {b : List UInt8} (hw : isW true hp n m (some b)) (x : Int) : zwi [.ptr n 1 0 0,.int .i64 x] hp = ⟨b.length + 20 ≤ 4294967296 ∧ -9223372036854775808 ≤ x ∧ x < 9223372036854775808,.tup [],setW true hp n m (wLen b (intF x) 1)⟩ := zfy zew hw x
theorem zhb {b b' : List UInt8} {k z : Int} (h : wNum b k z = some b') : b'.length ≤ b.length + 4 := by
 unfold wNum at h
 split at h
 · cases h
 · rename_i hc
   injection h with h
   rw [← h,List.length_append,ze]
   omega
theorem z73 : OkH Tryz.prog 107 zwi := by
 refine OkH.mkW (ps := [(128,sInt)]) (hs := [(20,ze4),(59,z2p)]) ⟨z06,trivial⟩ ⟨zhu,z43,trivial⟩ zms (fun _ => rfl) (fun n m hp b x hw hn hm h => ?_) (fun n hp x hw hn hx => ?_) (fun hp x h => h.elim)
 · obtain ⟨hb,hx⟩ := h
   have e0 : sInt [.int .i64 x] = (-9223372036854775808 ≤ x ∧ x < 9223372036854775808,.sl (bsl (intF x))) := rfl
   rw [eq_true hx] at e0
   have il := zdk x
   have w := zoc hw (intF x).length 1
   rw [eq_true (show b.length + 4 ≤ 4294967296 ∧ ((intF x).length : Int) < 9223372036854775808 by omega)] at w
   cases hv : wNum b (intF x).length 1 with
   | none =>
     rw [hv] at w
     have l := zic (zls hw) (intF x)
     have e : wLen b (intF x) 1 = none := by unfold wLen; rw [hv]
     simp only [↓sqP,sqT,zch,fW,zc,dval,za,Nat.reduceEqDiff,↓reduceIte,retV,retL,fzVs,fzV,fz1,DV.immB,List.map_cons,List.map_nil,Bool.false_eq_true,reduceCtorEq,Nat.reduceLeDiff,zp,zq,z1,zz,zu,z6,Int.reduceNeg,e0,w,l,e]
   | some b' =>
     rw [hv] at w
     have hl' := zhb hv
     have l := zsm (zqx (c := b') hw) (intF x)
     rw [zly hw.2.2,eq_true (show b'.length + (intF x).length ≤ 4294967296 by omega)] at l
     have e : wLen b (intF x) 1 = some (b' ++ intF x) := by unfold wLen; rw [hv]
     simp only [↓sqP,sqT,zch,fW,zc,dval,za,Nat.reduceEqDiff,↓reduceIte,retV,retL,fzVs,fzV,fz1,DV.immB,List.map_cons,List.map_nil,Bool.false_eq_true,reduceCtorEq,Nat.reduceLeDiff,zp,zq,z1,zz,zu,z6,Int.reduceNeg,e0,w,l,e]
 · have e0 : sInt [.int .i64 x] = (-9223372036854775808 ≤ x ∧ x < 9223372036854775808,.sl (bsl (intF x))) := rfl
   rw [eq_true (show -9223372036854775808 ≤ x ∧ x < 9223372036854775808 from hx)] at e0
   have w := zl1 hw (intF x).length 1
   have l := zic hw (intF x)
   simp only [↓sqP,sqT,zch,zc,dval,za,Nat.reduceEqDiff,↓reduceIte,retV,retL,fzVs,fzV,fz1,DV.immB,List.map_cons,List.map_nil,Bool.false_eq_true,reduceCtorEq,zp,zq,z1,zz,zu,z6,e0,w,l]
theorem z45 : InjL (fun c : List UInt8 => [DV.str c]) := fun x y h => by
 simp only [List.cons.injEq,DV.str.injEq,and_true] at h
 exact h
noncomputable def zti : List DV → List DObj → Res := zho true (fun c : List UInt8 => [.str c]) (fW true fun b c => (b.length + c.length + 20 ≤ 4294967296,.tup [],wLen b c 2)) (fun c => (c.length ≤ 4294967296,.tup [])) (fun _ => (False,.undef))
theorem zrb (c : List UInt8) : (c.map fun b => [DV.int .u8 b.toNat]) = bsl c := rfl
theorem zyq : OkH Tryz.prog 105 zti := by
 refine OkH.mkW (ps := []) (hs := [(20,ze4),(59,z2p)]) trivial ⟨zhu,z43,trivial⟩ zmg (fun _ => rfl) (fun n m hp b c hw hn hm h => ?_) (fun n hp c hw hn hx => ?_) (fun hp x h => h.elim)
 · have hb : b.length + c.length + 20 ≤ 4294967296 := h
   have w := zoc hw c.length 2
   rw [eq_true (show b.length + 4 ≤ 4294967296 ∧ (c.length : Int) < 9223372036854775808 by omega)] at w
   cases hv : wNum b c.length 2 with
   | none =>
     rw [hv] at w
     have l := zic (zls hw) c
     have e : wLen b c 2 = none := by unfold wLen; rw [hv]
     simp only [↓sqP,sqT,zcc,fW,zc,dval,za,Nat.reduceEqDiff,↓reduceIte,retV,retL,List.map_cons,List.map_nil,reduceCtorEq,Nat.reduceLeDiff,zrb,w,l,e]
   | some b' =>
     rw [hv] at w
     have hl' := zhb hv
     have l := zsm (zqx (c := b') hw) c
     rw [zly hw.2.2,eq_true (show b'.length + c.length ≤ 4294967296 by omega)] at l
     have e : wLen b c 2 = some (b' ++ c) := by unfold wLen; rw [hv]
     simp only [↓sqP,sqT,zcc,fW,zc,dval,za,Nat.reduceEqDiff,↓reduceIte,retV,retL,List.map_cons,List.map_nil,reduceCtorEq,Nat.reduceLeDiff,zrb,w,l,e]
 · have w := zl1 hw c.length 2
   have l := zic hw c
   simp only [↓sqP,sqT,zcc,zc,dval,za,Nat.reduceEqDiff,↓reduceIte,retV,retL,List.map_cons,List.map_nil,reduceCtorEq,zrb,w,l]
noncomputable def zx0 : List DV → List DObj → Res := zho true (fun c : List UInt8 => [.sl (bsl c)]) (fW true fun b c => (b.length + c.length + 20 ≤ 4294967296,.tup [],wLen b c 4)) (fun c => (c.length ≤ 4294967296,.tup [])) (fun _ => (False,.undef))
theorem ok_wPart : OkH Tryz.prog 21 zx0 := by
 refine OkH.mkW (ps := []) (hs := [(20,ze4),(59,z2p)]) trivial ⟨zhu,z43,trivial⟩ zl6 (fun _ => rfl) (fun n m hp b c hw hn hm h => ?_) (fun n hp c hw hn hx => ?_) (fun hp x h => h.elim)
 · have hb : b.length + c.length + 20 ≤ 4294967296 := h
   have w := zoc hw c.length 4
   rw [eq_true (show b.length + 4 ≤ 4294967296 ∧ (c.length : Int) < 9223372036854775808 by omega)] at w
   cases hv : wNum b c.length 4 with
   | none =>
     rw [hv] at w
     have l := zic (zls hw) c
     have e : wLen b c 4 = none := by unfold wLen; rw [hv]
     simp only [↓sqP,sqT,zb9,fW,zc,dval,za,Nat.reduceEqDiff,↓reduceIte,retV,retL,List.map_cons,List.map_nil,reduceCtorEq,Nat.reduceLeDiff,w,l,e]
   | some b' =>
     rw [hv] at w
     have hl' := zhb hv
     have l := zsm (zqx (c := b') hw) c
     rw [zly hw.2.2,eq_true (show b'.length + c.length ≤ 4294967296 by omega)] at l
     have e : wLen b c 4 = some (b' ++ c) := by unfold wLen; rw [hv]
     simp only [↓sqP,sqT,zb9,fW,zc,dval,za,Nat.reduceEqDiff,↓reduceIte,retV,retL,List.map_cons,List.map_nil,reduceCtorEq,Nat.reduceLeDiff,w,l,e]
 · have w := zl1 hw c.length 4
   have l := zic hw c
   simp only [↓sqP,sqT,zb9,zc,dval,za,Nat.reduceEqDiff,↓reduceIte,retV,retL,List.map_cons,List.map_nil,reduceCtorEq,w,l]
noncomputable def zpq : List DV → List DObj → Res := fun a hp => ⟨a = [],.ptr hp.length 1 0 0,hp ++ [⟨.loc,2,[[.nil,.bool true]]⟩]⟩
theorem ztz (hp : List DObj) : zpq [] hp = ⟨True,.ptr hp.length 1 0 0,hp ++ [⟨.loc,2,[[.nil,.bool true]]⟩]⟩ := by unfold zpq; simp
theorem zyn : OkH Tryz.prog 18 zpq := by
 refine OkH.mk (ps := []) (hs := []) (n := 0) trivial trivial z07 fun a hp h => ?_
 have h' : a = [] := h
 subst h'
 refine ⟨rfl,?_⟩
 simp only [↓sqP,sqT,zrl,zpq,zj,zc,dval,za,Nat.reduceAdd,↓reduceIte,retV,DR.val,forall_const,List.length_cons,List.length_nil,Nat.reduceLeDiff,List.set_cons_zero,List.set_cons_succ,DV.one,List.not_mem_nil,List.forall_mem_cons,cellsOf,zf,DV.isU]
end Go.Proofs.YtfaailjhioobhaaGreat
set_option linter.all false
set_option maxRecDepth 20000
namespace Go.Proofs.YtfaailjhioobhaaGreat
open Go.Nk
noncomputable def zv3 : List DV → List DObj → Res := zho false (fun c : List UInt8 => [.sl (bsl c)]) (fW false fun b c => (b.length + c.length ≤ 4294967296,.tup [],some (b ++ c))) (fun _ => (True,.tup [])) (fun _ => (False,.undef))
theorem zs9 {hp : List DObj} {n m : Nat} {b : List UInt8} (hw : isW false hp n m (some b)) (c : List UInt8) : zv3 [.ptr n 1 0 0,.sl (bsl c)] hp = ⟨b.length + c.length ≤ 4294967296,.tup [],setW false hp n m (some (b ++ c))⟩ := zfy zp9 hw c
theorem zf4 {hp : List DObj} {n : Nat} (hw : isW false hp n 0 none) (c : List UInt8) : zv3 [.ptr n 1 0 0,.sl (bsl c)] hp = ⟨True,.tup [],hp⟩ := zgf zp9 hw c
theorem z1s : OkH Tryz.prog 71 zv3 := by
 refine OkH.mkW (ps := []) (hs := []) trivial trivial zl8 (fun _ => rfl) (fun n m hp b c hw hn hm h => ?_) (fun n hp c hw hn _ => ?_) (fun hp c h => h.elim)
 · have hh := hw.1
   have h2 := hw.2.1
   have hne := hw.2.2
   have hl : b.length + c.length ≤ zal := h
   have g1 : (hp.set m ⟨.imm,1,bsl b ++ bsl c⟩)[n]? = some ⟨.loc,2,[[.own m b.length 0 b.length,.bool false]]⟩ := by rw [List.getElem?_set_ne (Ne.symm hne)]; exact hh
   have e : setW false hp n m (some (b ++ c)) = (hp.set m ⟨.imm,1,bsl b ++ bsl c⟩).set n ⟨.loc,2,[[.own m (b.length + c.length) 0 (b.length + c.length),.bool false]]⟩ := by simp only [setW,zlw,List.length_append]
   have r := zc7 (l := c)
   simp only [↓sqP,sqT,zdd,fW,List.drop_succ_cons,↓zh,zc,dval,za,Nat.reduceEqDiff,Nat.reduceAdd,↓reduceIte,dUn,zg,zb,retV,retL,forall_const,reduceCtorEq,List.length_cons,List.length_nil,List.getD_cons_zero,Nat.reduceLeDiff,Nat.reduceLT,List.set_cons_zero,zi,zao,zo,DV.one,alive,List.drop_zero,List.not_mem_nil,List.forall_mem_cons,cellsOf,zf,ne_eq,hh,h2,hl,g1,e]
   exact r
 · have hh : hp[n]? = some ⟨.loc,2,[[.nil,.bool true]]⟩ := hw
   simp only [↓sqP,sqT,zdd,List.drop_succ_cons,↓zh,zc,dval,za,↓reduceIte,dUn,zg,zb,retV,retL,Bool.false_eq_true,reduceCtorEq,List.length_cons,List.length_nil,List.getD_cons_zero,alive,List.drop_zero,ne_eq,hh]
noncomputable def zd5 : List DV → List DObj → Res := zho false (fun x : Int × Int => [.int .i64 x.1,.int .i64 x.2]) (fW false fun b x => (b.length + 4 ≤ 4294967296 ∧ x.1 < 9223372036854775808,.tup [],wNum b x.1 x.2)) (fun _ => (True,.tup [])) (fun _ => (False,.undef))
theorem znx {hp : List DObj} {n m : Nat} {b : List UInt8} (hw : isW false hp n m (some b)) (k z : Int) : zd5 [.ptr n 1 0 0,.int .i64 k,.int .i64 z] hp = ⟨b.length + 4 ≤ 4294967296 ∧ k < 9223372036854775808,.tup [],setW false hp n m (wNum b k z)⟩ := zfy zpu hw (k,z)
theorem zlr {hp : List DObj} {n : Nat} (hw : isW false hp n 0 none) (k z : Int) : zd5 [.ptr n 1 0 0,.int .i64 k,.int .i64 z] hp = ⟨True,.tup [],hp⟩ := zgf zpu hw (k,z)
theorem zt6 (i : Nat) : ((256 ^ i : Nat) : Int) * 256 = ((256 ^ (i + 1) : Nat) : Int) := by rw [Nat.pow_succ]; norm_cast
theorem sPut_z {k z : Int} (h0 : 0 ≤ k) (h1 : k < 18446744073709551616) (hz : ¬ z < 1) (hz2 : ¬ 4 < z) : sPut [.int .u64 k,.int .i64 z] = (True,.sl (bsl (putL k.toNat z.toNat))) := by
 have hz1 : ¬ (z < 1 ∨ 8 < z) := by omega
 have : sPut [.int .u64 k,.int .i64 z] = (0 ≤ k ∧ k < 18446744073709551616,.sl (bsl (if z < 1 ∨ 8 < z then [] else putL k.toNat z.toNat))) := rfl
 rw [this,if_neg hz1,eq_true (show 0 ≤ k ∧ k < 18446744073709551616 from ⟨h0,h1⟩)]
set_option maxHeartbeats 1000000 in
theorem zhs : OkH Tryz.prog 30 zd5 := by
 refine OkH.mkW (ps := [(70,sPut)]) (hs := []) ⟨zhz,trivial⟩ trivial zn3 (fun _ => rfl) (fun n m hp b x hw hn hm h => ?_) (fun n hp x hw hn _ => ?_) (fun hp x h => h.elim)
 · obtain ⟨k,z⟩ := x
   obtain ⟨hb,hk⟩ := h
   simp only at hb hk
   simp only [↓sqP,sqT,zd0,fW,za,zc,dval,za,Nat.reduceAdd,Nat.reduceLeDiff]
   refine zaa (fun i : Nat => ⟨[(0,.ptr n 1 0 0),(1,.int .i64 k),(2,.int .i64 z),(6,.int .i64 ((256 ^ i : Nat) : Int)),(7,.int .i64 i)],hp⟩) (fun i => i ≤ 4 ∧ i ≤ z.toNat) (fun i => 4 - i) 0 trivial ?_ ⟨Nat.zero_le _,Nat.zero_le _⟩ fun i hi => ?_
   · simp only [zn,List.map_cons,List.map_nil,zd,Nk.get_nil,Nat.reduceEqDiff,↓reduceIte,Nat.succ_ne_self,reduceCtorEq]
     rfl
   obtain ⟨h4,hz⟩ := hi
   by_cases c : (i : Int) < z ∧ i < 4
   · have d1 : decide ((i : Int) < z) = true := by simp [c.1]
     have d2 : decide ((i : Int) < 4) = true := by simp; omega
     have p1 := zt6 i
     have p2 := z0n (z := i + 1) (by omega)
     have w1 : IntKind.i64.wrap (((256 ^ i : Nat) : Int) * 256) = ((256 ^ (i + 1) : Nat) : Int) := by
       rw [p1]
       generalize 256 ^ (i + 1) = t at p2 ⊢
       exact zt (by omega)
     have w2 : IntKind.i64.wrap ((i : Int) + 1) = ((i + 1 : Nat) : Int) := by rw [zt (by omega)]; omega
     simp only [↓sqP,sqT,↓zh,zc,zm,dval,Nat.reduceEqDiff,↓reduceIte,dBin,dInt,reduceCtorEq,d1,d2,w1,w2]
     refine ⟨i + 1,?_,⟨by omega,by omega⟩,by omega⟩
     simp only [zn,List.map_cons,List.map_nil,zd,Nk.get_nil,Nat.reduceEqDiff,↓reduceIte,Nat.succ_ne_self,reduceCtorEq]
   have key : decide ((i : Int) < z) = false ∨ (decide ((i : Int) < z) = true ∧ decide ((i : Int) < 4) = false) := by
     by_cases c1 : (i : Int) < z
     · refine .inr ⟨by simp [c1],?_⟩
       simp; omega
     · exact .inl (by simp [c1])
   have hh := hw.1
   have h2 := hw.2.1
   have hne := hw.2.2
   have en : setW false hp n m none = hp.set n ⟨.loc,2,[[.nil,.bool true]]⟩ := rfl
   have g0 : ∀ a : DObj,(hp.set n a)[n]? = some a := fun a => List.getElem?_set_self hn
   have g9 : ∀ a b : DObj,(hp.set n a).set n b = hp.set n b := fun a b => List.set_set ..
   by_cases h1 : z < 1
   · have e1 : decide (z < 1) = true := by simp [h1]
     have e : wNum b k z = none := by unfold wNum; rw [if_pos (.inl h1)]
     rcases key with d1 | ⟨d1,d2⟩ <;> first
       | simp only [↓sqP,sqT,List.drop_succ_cons,↓zh,zc,zm,dval,Nat.reduceEqDiff,Nat.reduceAdd,↓reduceIte,dBin,dInt,zg,zb,retV,retL,Bool.false_eq_true,forall_const,reduceCtorEq,List.length_cons,List.length_nil,List.getD_cons_zero,Nat.reduceLeDiff,List.set_cons_zero,List.set_cons_succ,zo,DV.one,alive,List.drop_zero,List.not_mem_nil,List.forall_mem_cons,cellsOf,zf,ne_eq,d1,d2,e1,hh,e,en,g0,g9]; done
       | simp only [↓sqP,sqT,List.drop_succ_cons,↓zh,zc,zm,dval,Nat.reduceEqDiff,Nat.reduceAdd,↓reduceIte,dBin,dInt,zg,zb,retV,retL,Bool.false_eq_true,forall_const,reduceCtorEq,List.length_cons,List.length_nil,List.getD_cons_zero,Nat.reduceLeDiff,List.set_cons_zero,List.set_cons_succ,zo,DV.one,alive,List.drop_zero,List.not_mem_nil,List.forall_mem_cons,cellsOf,zf,ne_eq,d1,e1,hh,e,en,g0,g9]
   have e1 : decide (z < 1) = false := by simp [h1]
   by_cases h3 : 4 < z
   · have e2 : decide (4 < z) = true := by simp [h3]
     have e : wNum b k z = none := by unfold wNum; rw [if_pos (.inr (.inl h3))]
     rcases key with d1 | ⟨d1,d2⟩ <;> first
       | simp only [↓sqP,sqT,List.drop_succ_cons,↓zh,zc,zm,dval,Nat.reduceEqDiff,Nat.reduceAdd,↓reduceIte,dBin,dInt,zg,zb,retV,retL,Bool.false_eq_true,forall_const,reduceCtorEq,List.length_cons,List.length_nil,List.getD_cons_zero,Nat.reduceLeDiff,List.set_cons_zero,List.set_cons_succ,zo,DV.one,alive,List.drop_zero,List.not_mem_nil,List.forall_mem_cons,cellsOf,zf,gt_iff_lt,ne_eq,d1,d2,e1,e2,hh,e,en,g0,g9]; done
       | simp only [↓sqP,sqT,List.drop_succ_cons,↓zh,zc,zm,dval,Nat.reduceEqDiff,Nat.reduceAdd,↓reduceIte,dBin,dInt,zg,zb,retV,retL,Bool.false_eq_true,forall_const,reduceCtorEq,List.length_cons,List.length_nil,List.getD_cons_zero,Nat.reduceLeDiff,List.set_cons_zero,List.set_cons_succ,zo,DV.one,alive,List.drop_zero,List.not_mem_nil,List.forall_mem_cons,cellsOf,zf,gt_iff_lt,ne_eq,d1,e1,e2,hh,e,en,g0,g9]
   have e2 : decide (4 < z) = false := by simp [h3]
   by_cases h5 : k < 0
   · have e3 : decide (k < 0) = true := by simp [h5]
     have e : wNum b k z = none := by unfold wNum; rw [if_pos (.inr (.inr (.inl h5)))]
     rcases key with d1 | ⟨d1,d2⟩ <;> first
       | simp only [↓sqP,sqT,List.drop_succ_cons,↓zh,zc,zm,dval,Nat.reduceEqDiff,Nat.reduceAdd,↓reduceIte,dBin,dInt,zg,zb,retV,retL,Bool.false_eq_true,forall_const,reduceCtorEq,List.length_cons,List.length_nil,List.getD_cons_zero,Nat.reduceLeDiff,List.set_cons_zero,List.set_cons_succ,zo,DV.one,alive,List.drop_zero,List.not_mem_nil,List.forall_mem_cons,cellsOf,zf,gt_iff_lt,ne_eq,d1,d2,e1,e2,e3,hh,e,en,g0,g9]; done
       | simp only [↓sqP,sqT,List.drop_succ_cons,↓zh,zc,zm,dval,Nat.reduceEqDiff,Nat.reduceAdd,↓reduceIte,dBin,dInt,zg,zb,retV,retL,Bool.false_eq_true,forall_const,reduceCtorEq,List.length_cons,List.length_nil,List.getD_cons_zero,Nat.reduceLeDiff,List.set_cons_zero,List.set_cons_succ,zo,DV.one,alive,List.drop_zero,List.not_mem_nil,List.forall_mem_cons,cellsOf,zf,gt_iff_lt,ne_eq,d1,e1,e2,e3,hh,e,en,g0,g9]
   have e3 : decide (k < 0) = false := by simp [h5]
   have iz : i = z.toNat := by omega
   subst iz
   have p2 := z0n (z := z.toNat) (by omega)
   by_cases h6 : ((256 ^ z.toNat : Nat) : Int) ≤ k
   · have e4 : decide (((256 ^ z.toNat : Nat) : Int) ≤ k) = true := decide_eq_true h6
     have e : wNum b k z = none := by unfold wNum; rw [if_pos (.inr (.inr (.inr h6)))]
     rcases key with d1 | ⟨d1,d2⟩ <;> first
       | simp only [↓sqP,sqT,List.drop_succ_cons,↓zh,zc,zm,dval,Nat.reduceEqDiff,Nat.reduceAdd,↓reduceIte,dBin,dInt,zg,zb,retV,retL,Bool.false_eq_true,forall_const,reduceCtorEq,List.length_cons,List.length_nil,List.getD_cons_zero,Nat.reduceLeDiff,List.set_cons_zero,List.set_cons_succ,zo,DV.one,alive,List.drop_zero,List.not_mem_nil,List.forall_mem_cons,cellsOf,zf,gt_iff_lt,ge_iff_le,ne_eq,d1,d2,e1,e2,e3,e4,hh,e,en,g0,g9]; done
       | simp only [↓sqP,sqT,List.drop_succ_cons,↓zh,zc,zm,dval,Nat.reduceEqDiff,Nat.reduceAdd,↓reduceIte,dBin,dInt,zg,zb,retV,retL,Bool.false_eq_true,forall_const,reduceCtorEq,List.length_cons,List.length_nil,List.getD_cons_zero,Nat.reduceLeDiff,List.set_cons_zero,List.set_cons_succ,zo,DV.one,alive,List.drop_zero,List.not_mem_nil,List.forall_mem_cons,cellsOf,zf,gt_iff_lt,ge_iff_le,ne_eq,d1,e1,e2,e3,e4,hh,e,en,g0,g9]
   have e4 : decide (((256 ^ z.toNat : Nat) : Int) ≤ k) = false := decide_eq_false h6
   have e : wNum b k z = some (b ++ putL k.toNat z.toNat) := by
     unfold wNum
     rw [if_neg (by
       rintro (h | h | h | h)
       · exact h1 h
       · exact h3 h
       · exact h5 h
       · exact h6 h)]
   have wk : IntKind.u64.wrap k = k := ztl (by omega)
   have pp := sPut_z (k := k) (z := z) (by omega) (by omega) h1 h3
   have r := zc7 (l := putL k.toNat z.toNat)
   have hl : b.length + (putL k.toNat z.toNat).length ≤ zal := by
     have : zal = 4294967296 := rfl
     rw [ze,this]; omega
   have g1 : (hp.set m ⟨.imm,1,bsl b ++ bsl (putL k.toNat z.toNat)⟩)[n]? = some ⟨.loc,2,[[.own m b.length 0 b.length,.bool false]]⟩ := by rw [List.getElem?_set_ne (Ne.symm hne)]; exact hh
   have es : setW false hp n m (some (b ++ putL k.toNat z.toNat)) = (hp.set m ⟨.imm,1,bsl b ++ bsl (putL k.toNat z.toNat)⟩).set n ⟨.loc,2,[[.own m (b.length + (putL k.toNat z.toNat).length) 0 (b.length + (putL k.toNat z.toNat).length),.bool false]]⟩ := by simp only [setW,zlw,List.length_append]
   rcases key with d1 | ⟨d1,d2⟩
   · simp only [↓sqP,sqT,List.drop_succ_cons,↓zh,zc,zm,dval,Nat.reduceEqDiff,Nat.reduceAdd,↓reduceIte,dBin,dInt,zg,zb,retV,retL,fzVs,fzV,fz1,DV.immB,List.map_cons,List.map_nil,Bool.false_eq_true,forall_const,reduceCtorEq,List.length_cons,List.length_nil,List.getD_cons_zero,Nat.reduceLeDiff,Nat.reduceLT,zp,zq,z1,zz,zu,z6,List.set_cons_zero,zi,zao,zo,DV.one,alive,List.drop_zero,List.not_mem_nil,List.forall_mem_cons,cellsOf,zf,gt_iff_lt,ge_iff_le,ne_eq,d1,e1,e2,e3,e4,wk,pp,hh,h2,hl,g1,e,es]
     exact r
   · simp only [↓sqP,sqT,List.drop_succ_cons,↓zh,zc,zm,dval,Nat.reduceEqDiff,Nat.reduceAdd,↓reduceIte,dBin,dInt,zg,zb,retV,retL,fzVs,fzV,fz1,DV.immB,List.map_cons,List.map_nil,Bool.false_eq_true,forall_const,reduceCtorEq,List.length_cons,List.length_nil,List.getD_cons_zero,Nat.reduceLeDiff,Nat.reduceLT,zp,zq,z1,zz,zu,z6,List.set_cons_zero,zi,zao,zo,DV.one,alive,List.drop_zero,List.not_mem_nil,List.forall_mem_cons,cellsOf,zf,gt_iff_lt,ge_iff_le,ne_eq,d1,d2,e1,e2,e3,e4,wk,pp,hh,h2,hl,g1,e,es]
     exact r
 · obtain ⟨k,z⟩ := x
   simp only [↓sqP,sqT,zd0,za,zc,dval,za,Nat.reduceAdd]
   refine zaa (fun i : Nat => ⟨[(0,.ptr n 1 0 0),(1,.int .i64 k),(2,.int .i64 z),(6,.int .i64 ((256 ^ i : Nat) : Int)),(7,.int .i64 i)],hp⟩) (fun i => i ≤ 4 ∧ i ≤ z.toNat) (fun i => 4 - i) 0 trivial ?_ ⟨Nat.zero_le _,Nat.zero_le _⟩ fun i hi => ?_
   · simp only [zn,List.map_cons,List.map_nil,zd,Nk.get_nil,Nat.reduceEqDiff,↓reduceIte,Nat.succ_ne_self,reduceCtorEq]
     rfl
   obtain ⟨h4,hz⟩ := hi
   by_cases c : (i : Int) < z ∧ i < 4
   · have d1 : decide ((i : Int) < z) = true := by simp [c.1]
     have d2 : decide ((i : Int) < 4) = true := by simp; omega
     have p1 := zt6 i
     have p2 := z0n (z := i + 1) (by omega)
     have w1 : IntKind.i64.wrap (((256 ^ i : Nat) : Int) * 256) = ((256 ^ (i + 1) : Nat) : Int) := by
       rw [p1]
       generalize 256 ^ (i + 1) = t at p2 ⊢
       exact zt (by omega)
     have w2 : IntKind.i64.wrap ((i : Int) + 1) = ((i + 1 : Nat) : Int) := by rw [zt (by omega)]; omega
     simp only [↓sqP,sqT,↓zh,zc,zm,dval,Nat.reduceEqDiff,↓reduceIte,dBin,dInt,reduceCtorEq,d1,d2,w1,w2]
     refine ⟨i + 1,?_,⟨by omega,by omega⟩,by omega⟩
     simp only [zn,List.map_cons,List.map_nil,zd,Nk.get_nil,Nat.reduceEqDiff,↓reduceIte,Nat.succ_ne_self,reduceCtorEq]
   have key : decide ((i : Int) < z) = false ∨ (decide ((i : Int) < z) = true ∧ decide ((i : Int) < 4) = false) := by
     by_cases c1 : (i : Int) < z
     · refine .inr ⟨by simp [c1],?_⟩
       simp; omega
     · exact .inl (by simp [c1])
   have hh : hp[n]? = some ⟨.loc,2,[[.nil,.bool true]]⟩ := hw
   have g9 : hp.set n ⟨.loc,2,[[.nil,.bool true]]⟩ = hp := zb8 hh
   rcases key with d1 | ⟨d1,d2⟩ <;> first
     | simp only [↓sqP,sqT,List.drop_succ_cons,↓zh,zc,zm,dval,Nat.reduceEqDiff,Nat.reduceAdd,↓reduceIte,dBin,dInt,zg,zb,retV,retL,Bool.false_eq_true,forall_const,reduceCtorEq,List.length_cons,List.length_nil,List.getD_cons_zero,Nat.reduceLeDiff,List.set_cons_zero,List.set_cons_succ,zo,DV.one,alive,List.drop_zero,List.not_mem_nil,List.forall_mem_cons,cellsOf,zf,ne_eq,d1,d2,hh,g9]; done
     | simp only [↓sqP,sqT,List.drop_succ_cons,↓zh,zc,zm,dval,Nat.reduceEqDiff,Nat.reduceAdd,↓reduceIte,dBin,dInt,zg,zb,retV,retL,Bool.false_eq_true,forall_const,reduceCtorEq,List.length_cons,List.length_nil,List.getD_cons_zero,Nat.reduceLeDiff,List.set_cons_zero,List.set_cons_succ,zo,DV.one,alive,List.drop_zero,List.not_mem_nil,List.forall_mem_cons,cellsOf,zf,ne_eq,d1,hh,g9]
noncomputable def zrd : List DV → List DObj → Res := zho false (fun x : Int => [.int .i64 x]) (fW false fun b x => (b.length + 20 ≤ 4294967296 ∧ -9223372036854775808 ≤ x ∧ x < 9223372036854775808,.tup [],wLen b (intF x) 1)) (fun x => (-9223372036854775808 ≤ x ∧ x < 9223372036854775808,.tup [])) (fun _ => (False,.undef))
theorem z9f {hp : List DObj} {n m : Nat} {b : List UInt8} (hw : isW false hp n m (some b)) (x : Int) : zrd [.ptr n 1 0 0,.int .i64 x] hp = ⟨b.length + 20 ≤ 4294967296 ∧ -9223372036854775808 ≤ x ∧ x < 9223372036854775808,.tup [],setW false hp n m (wLen b (intF x) 1)⟩ := zfy zew hw x
theorem yan : OkH Tryz.prog 66 zrd := by
 refine OkH.mkW (ps := [(114,sInt)]) (hs := [(30,zd5),(71,zv3)]) ⟨zq1,trivial⟩ ⟨zhs,z1s,trivial⟩ zpt (fun _ => rfl) (fun n m hp b x hw hn hm h => ?_) (fun n hp x hw hn hx => ?_) (fun hp x h => h.elim)
 · obtain ⟨hb,hx⟩ := h
   have e0 : sInt [.int .i64 x] = (-9223372036854775808 ≤ x ∧ x < 9223372036854775808,.sl (bsl (intF x))) := rfl
   rw [eq_true hx] at e0
   have il := zdk x
   have w := znx hw (intF x).length 1
   rw [eq_true (show b.length + 4 ≤ 4294967296 ∧ ((intF x).length : Int) < 9223372036854775808 by omega)] at w
   cases hv : wNum b (intF x).length 1 with
   | none =>
     rw [hv] at w
     have l := zf4 (zls hw) (intF x)
     have e : wLen b (intF x) 1 = none := by unfold wLen; rw [hv]
     simp only [↓sqP,sqT,zcw,fW,zc,dval,za,Nat.reduceEqDiff,↓reduceIte,retV,retL,fzVs,fzV,fz1,DV.immB,List.map_cons,List.map_nil,Bool.false_eq_true,reduceCtorEq,Nat.reduceLeDiff,zp,zq,z1,zz,zu,z6,Int.reduceNeg,e0,w,l,e]
   | some b' =>
     rw [hv] at w
     have hl' := zhb hv
     have l := zs9 (zqx (c := b') hw) (intF x)
     rw [zly hw.2.2,eq_true (show b'.length + (intF x).length ≤ 4294967296 by omega)] at l
     have e : wLen b (intF x) 1 = some (b' ++ intF x) := by unfold wLen; rw [hv]
     simp only [↓sqP,sqT,zcw,fW,zc,dval,za,Nat.reduceEqDiff,↓reduceIte,retV,retL,fzVs,fzV,fz1,DV.immB,List.map_cons,List.map_nil,Bool.false_eq_true,reduceCtorEq,Nat.reduceLeDiff,zp,zq,z1,zz,zu,z6,Int.reduceNeg,e0,w,l,e]
 · have e0 : sInt [.int .i64 x] = (-9223372036854775808 ≤ x ∧ x < 9223372036854775808,.sl (bsl (intF x))) := rfl
   rw [eq_true (show -9223372036854775808 ≤ x ∧ x < 9223372036854775808 from hx)] at e0
   have w := zlr hw (intF x).length 1
   have l := zf4 hw (intF x)
   simp only [↓sqP,sqT,zcw,zc,dval,za,Nat.reduceEqDiff,↓reduceIte,retV,retL,fzVs,fzV,fz1,DV.immB,List.map_cons,List.map_nil,Bool.false_eq_true,reduceCtorEq,zp,zq,z1,zz,zu,z6,e0,w,l]
noncomputable def zqv : List DV → List DObj → Res := zho false (fun c : List UInt8 => [.str c]) (fW false fun b c => (b.length + c.length + 20 ≤ 4294967296,.tup [],wLen b c 2)) (fun c => (c.length ≤ 4294967296,.tup [])) (fun _ => (False,.undef))
theorem zxk : OkH Tryz.prog 67 zqv := by
 refine OkH.mkW (ps := []) (hs := [(30,zd5),(71,zv3)]) trivial ⟨zhs,z1s,trivial⟩ zm3 (fun _ => rfl) (fun n m hp b c hw hn hm h => ?_) (fun n hp c hw hn hx => ?_) (fun hp x h => h.elim)
 · have hb : b.length + c.length + 20 ≤ 4294967296 := h
   have w := znx hw c.length 2
   rw [eq_true (show b.length + 4 ≤ 4294967296 ∧ (c.length : Int) < 9223372036854775808 by omega)] at w
   cases hv : wNum b c.length 2 with
   | none =>
     rw [hv] at w
     have l := zf4 (zls hw) c
     have e : wLen b c 2 = none := by unfold wLen; rw [hv]
     simp only [↓sqP,sqT,zcq,fW,zc,dval,za,Nat.reduceEqDiff,↓reduceIte,retV,retL,List.map_cons,List.map_nil,reduceCtorEq,Nat.reduceLeDiff,zrb,w,l,e]
   | some b' =>
     rw [hv] at w
     have hl' := zhb hv
     have l := zs9 (zqx (c := b') hw) c
     rw [zly hw.2.2,eq_true (show b'.length + c.length ≤ 4294967296 by omega)] at l
     have e : wLen b c 2 = some (b' ++ c) := by unfold wLen; rw [hv]
     simp only [↓sqP,sqT,zcq,fW,zc,dval,za,Nat.reduceEqDiff,↓reduceIte,retV,retL,List.map_cons,List.map_nil,reduceCtorEq,Nat.reduceLeDiff,zrb,w,l,e]
 · have w := zlr hw c.length 2
   have l := zf4 hw c
   simp only [↓sqP,sqT,zcq,zc,dval,za,Nat.reduceEqDiff,↓reduceIte,retV,retL,List.map_cons,List.map_nil,reduceCtorEq,zrb,w,l]
noncomputable def zw7 : List DV → List DObj → Res := zho false (fun c : List UInt8 => [.sl (bsl c)]) (fW false fun b c => (b.length + c.length + 20 ≤ 4294967296,.tup [],wLen b c 4)) (fun c => (c.length ≤ 4294967296,.tup [])) (fun _ => (False,.undef))
theorem ok_uPart : OkH Tryz.prog 31 zw7 := by
 refine OkH.mkW (ps := []) (hs := [(30,zd5),(71,zv3)]) trivial ⟨zhs,z1s,trivial⟩ znc (fun _ => rfl) (fun n m hp b c hw hn hm h => ?_) (fun n hp c hw hn hx => ?_) (fun hp x h => h.elim)
 · have hb : b.length + c.length + 20 ≤ 4294967296 := h
   have w := znx hw c.length 4
   rw [eq_true (show b.length + 4 ≤ 4294967296 ∧ (c.length : Int) < 9223372036854775808 by omega)] at w
   cases hv : wNum b c.length 4 with
   | none =>
     rw [hv] at w
     have l := zf4 (zls hw) c
     have e : wLen b c 4 = none := by unfold wLen; rw [hv]
     simp only [↓sqP,sqT,zck,fW,zc,dval,za,Nat.reduceEqDiff,↓reduceIte,retV,retL,List.map_cons,List.map_nil,reduceCtorEq,Nat.reduceLeDiff,w,l,e]
   | some b' =>
     rw [hv] at w
     have hl' := zhb hv
     have l := zs9 (zqx (c := b') hw) c
     rw [zly hw.2.2,eq_true (show b'.length + c.length ≤ 4294967296 by omega)] at l
     have e : wLen b c 4 = some (b' ++ c) := by unfold wLen; rw [hv]
     simp only [↓sqP,sqT,zck,fW,zc,dval,za,Nat.reduceEqDiff,↓reduceIte,retV,retL,List.map_cons,List.map_nil,reduceCtorEq,Nat.reduceLeDiff,w,l,e]
 · have w := zlr hw c.length 4
   have l := zf4 hw c
   simp only [↓sqP,sqT,zck,zc,dval,za,Nat.reduceEqDiff,↓reduceIte,retV,retL,List.map_cons,List.map_nil,reduceCtorEq,w,l]
end Go.Proofs.YtfaailjhioobhaaGreat
