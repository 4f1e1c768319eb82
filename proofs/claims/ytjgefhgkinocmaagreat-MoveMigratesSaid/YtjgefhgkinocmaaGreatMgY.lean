/- Migrations: what the plan makes is what each slot must get. -/
import Derived.Test.YtjgefhgkinocmaaGreatMgS
set_option linter.all false
set_option maxRecDepth 20000
namespace Go.Proofs.YtjgefhgkinocmaaGreat
open Go.Nk
theorem in0 : in64 0 := ⟨by simp,by simp⟩
theorem ye4 {w : Img × Img} (harm : ∀ s,in64 (armT w.2.en s).2.1) (e : Ex) : okN e -> ∀ p,∀ i ∈ zao w e p,in64 i.n := by
 induction e using Ex.ind with
 | h e ih =>
   intro hn p i hi
   have he := hn e (zgd e)
   have sub : ∀ k p,∀ i ∈ (e.subs.map (zao w)).getD k noC p,in64 i.n := by
     intro k p i hi
     rw [zxh] at hi
     split at hi
     . rename_i h
       exact ih _ (List.getElem_mem h) (hn.sub (List.getElem_mem h)) p i hi
     . simp [noC] at hi
   have sq : ∀ (l : List Ex),(∀ x ∈ l,x ∈ e.subs) -> ∀ p,∀ i ∈ seqC (l.map (zao w)) p,in64 i.n := by
     intro l
     induction l with
     | nil => intro _ p i hi; simp [seqC] at hi
     | cons x l ihl =>
       intro hs p i hi
       simp only [List.map_cons,seqC,List.mem_append] at hi
       rcases hi with hi | hi
       . exact ih x (hs x (by simp)) (hn.sub (hs x (by simp))) _ i hi
       . exact ihl (fun y hy => hs y (by simp [hy])) _ i hi
   rw [znk] at hi
   split at hi
   . simp at hi; subst hi; exact he
   split at hi
   . simp at hi; subst hi; exact he
   split at hi
   . simp at hi; subst hi; exact harm _
   split at hi
   . simp [znm] at hi; subst hi; exact in0
   split at hi
   . simp only [zj6,List.mem_append,List.mem_singleton] at hi
     rcases hi with hi | rfl | hi | rfl | hi
     . exact sub _ _ i hi
     . exact in0
     . exact sub _ _ i hi
     . exact in0
     . exact sub _ _ i hi
   split at hi
   . simp only [List.mem_append,List.mem_singleton] at hi
     rcases hi with hi | rfl
     . exact sub _ _ i hi
     . exact in0
   . simp only [List.mem_append,List.mem_singleton] at hi
     rcases hi with hi | rfl
     . exact sq e.subs (fun _ h => h) _ i hi
     . exact in0
theorem cell_in2 {w : Img × Img} (harm : ∀ s,in64 (armT w.2.en s).2.1) {e : Ex} (hn : okN e) {k : Nat} (hk : e.kind = 14 -> k < e.subs.length) (p : Nat) : ∀ i ∈ zea w e k p,in64 i.n := by
 intro i hi
 unfold zea at hi
 split at hi
 . rename_i h
   have hm : e.subs.getD k default ∈ e.subs := List.mem_of_getElem? (z4 default (hk h))
   exact ye4 harm _ (hn.sub hm) p i hi
 split at hi
 . simp [znm] at hi; subst hi; exact in0
 . exact ye4 harm _ hn p i hi
theorem zzx {w : Img × Img} (harm : ∀ s,in64 (armT w.2.en s).2.1) {e : Ex} (hn : okN e) (hi : Nat) : ∀ j,(e.kind = 14 -> j <= e.subs.length) -> ∀ i ∈ zfm w e hi j,in64 i.n
 | 0,_,i,h => by simp [zfm] at h
 | j + 1,hj,i,h => by
   rw [zqp] at h
   simp only [List.mem_append,List.mem_singleton] at h
   rcases h with h | h | rfl
   . exact zzx harm hn hi j (fun k => by have := hj k; omega) i h
   . exact cell_in2 harm hn (fun k => by have := hj k; omega) _ i h
   . exact in0
theorem ybc (w : Img × Img) (e : Ex) (k p : Nat) : ((zea w e k p).length : Int) <= 2 * zaq e := by
 have hps := zar e
 unfold zea
 split
 . by_cases hk : k < e.subs.length
   . have m0 : e.subs.getD k default ∈ e.subs := List.mem_of_getElem? (z4 default hk)
     have := zid m0
     have := za7 e
     have := zcw w (e.subs.getD k default) p
     omega
   . have : e.subs.getD k default = default := by simp [List.getD,List.getElem?_eq_none (Nat.le_of_not_lt hk)]
     rw [this]
     have h1 := zcw w default p
     have h3 : zaq (default : Ex) = 1 := by
       have := za7 (default : Ex)
       rw [this]; rfl
     omega
 split
 . simp; omega
 . exact zcw w e p
theorem z20 (w : Img × Img) (e : Ex) (hi : Nat) : ∀ j : Nat,((zfm w e hi j).length : Int) <= j * (2 * zaq e + 1)
 | 0 => by simp [zfm]
 | j + 1 => by
   have h1 := z20 w e hi j
   have h2 := ybc w e j (zfm w e hi j).length
   have h3 : ((j + 1 : Nat) : Int) * (2 * zaq e + 1) = j * (2 * zaq e + 1) + (2 * zaq e + 1) := by rw [Int.natCast_add,Int.add_mul]; simp
   rw [zqp,h3]
   simp only [List.length_append,List.length_singleton]
   omega
theorem zxd (w : Img × Img) {e : Ex} (hi : Nat) {j : Nat} (hs : zaq e <= 60) (hj : j <= 8) : (zfm w e hi j).length <= 968 := by
 have h := z20 w e hi j
 have hp := zar e
 have : (j : Int) * (2 * zaq e + 1) <= 8 * 121 := Int.mul_le_mul (by omega) (by omega) (by omega) (by omega)
 omega
structure migOk (w : Img × Img) (l : List Mov) (st : List Int) : Prop where
 way : zpa w
 arm : ∀ s,in64 (armT w.2.en s).2.1
 s : inSt w.1 st
 ci : ∀ x ∈ st,in64 x
 run : runFit w st
 len : l.length <= 1000000
 pl : ∀ m ∈ l,okPl m.e
 n : ∀ m ∈ l,okN m.e
 sz : ∀ m ∈ l,zaq m.e <= 60
 dp : ∀ m ∈ l,zc0 m.e <= 12
 one : ∀ m ∈ l,oneE w m = 0
 hi : (zan w w.1.slots).length = st.length
 st : st.length <= 1000
 sl : ∀ s ∈ w.2.slots,w.2.slots.getD (fndI w.2.slots s.path).toNat default = s
 ini : ∀ s ∈ w.2.slots,(s.ini.length : Int) = zt s.ty
theorem zw1 {a b : Img} {s : Slt} (h : zc8 a b s = 1) : zcc a.en b.en (a.slots.getD (fndI a.slots s.path).toNat default).ty = (s.ty,true) := by
 have hf := zj4 h
 unfold zc8 at h
 rw [if_neg (by omega)] at h
 generalize zcc a.en b.en (a.slots.getD (fndI a.slots s.path).toNat default).ty = y at *
 obtain ⟨⟨k,e,n⟩,o⟩ := y
 rw [zo6] at h
 split at h
 . rename_i c
   simp only [Bool.and_eq_true] at c
   obtain ⟨c1,c2⟩ := c
   generalize s.ty = t at *
   obtain ⟨k',e',n'⟩ := t
   simp [eqT] at c2
   simp [c1,c2]
 . cases h
theorem ydl {a b : List En} {u t : Ty} (hh : zcc a b u = (t,true)) : t.n = u.n := by
 have key : ∀ (l : List En) (i : Int),(zgb a b u l i).2 = true -> (zgb a b u l i).1.n = u.n := by
   intro l
   induction l with
   | nil => intro i h; cases h
   | cons x l ih =>
     intro i h
     simp only [zgb] at h |-
     split
     . rfl
     . rename_i c
       rw [if_neg c] at h
       exact ih _ h
 unfold zcc at hh
 split at hh
 . split at hh
   . have := key b 0 (by rw [hh])
     rw [hh] at this
     exact this
   . injection hh with h1 _; rw [h1]
 . injection hh with _ h2; cases h2
theorem migOk.tyM {w : Img × Img} {l : List Mov} {st : List Int} (h : migOk w l st) {s : Slt} (hs : s ∈ w.2.slots) {m : Mov} (hp : m.path = s.path) : tyM w m = s.ty := by
 unfold Go.Proofs.YtjgefhgkinocmaaGreat.tyM
 rw [hp,h.sl s hs]
theorem migOk.wh {w : Img × Img} {l : List Mov} {st : List Int} (h : migOk w l st) {m : Mov} (hm : m ∈ l) : whFit w st m.e := ⟨h.way.1,h.arm,h.s,h.ci,h.pl _ hm,h.n _ hm,by rw [z17 (h.one _ hm)]⟩
def zbx (w : Img × Img) (l : List Mov) (s : Slt) : Pln := zmk w l s (zc8 w.1 w.2 s)
theorem zj8 {w : Img × Img} {l : List Mov} {st : List Int} (h : migOk w l st) {s : Slt} (hs : s ∈ w.2.slots) (c : ¬ mvdI l s.path < 0) : ∃ m ∈ l,zbd w l st s = zav w st m.e /\ ofT w m.e = (s.ty,true) /\
   zbx w l s = ⟨3,s.at_,zt s.ty,0,[],(zfm w m.e st.length (zt s.ty).toNat ++ [(⟨10,0,0,0⟩ : In4)]).map zgv⟩ := by
 obtain ⟨j,hj,hl,hp⟩ := zoh c
 have hm : l.getD j default ∈ l := List.mem_of_getElem? (z4 default hl)
 have hF : mvdF l s.path = (l.getD j default,true) := by unfold mvdF; rw [hj,if_neg (by omega),Int.toNat_natCast]
 have h1 := h.one _ hm
 have ht := h.tyM hs hp
 refine ⟨_,hm,?_,by rw [z17 h1,ht],?_⟩
 . unfold zbd; rw [hj,if_neg (by omega),Int.toNat_natCast]
 . unfold zbx zmk
   rw [hF,if_pos rfl]
   have : (zwg w (l.getD j default)).1 = ydn w (l.getD j default) := by unfold zwg; rw [if_pos h1]
   rw [this]
   unfold ydn
   rw [ht,h.hi]
   rfl
theorem zv1 {w : Img × Img} {l : List Mov} {s : Slt} (c : mvdI l s.path < 0) (q : zc8 w.1 w.2 s = 1) : zbx w l s = ⟨1,s.at_,zt s.ty,(w.1.slots.getD (fndI w.1.slots s.path).toNat default).at_,[],[]⟩ := by
 have hF : mvdF l s.path = (movZ,false) := by simp [mvdF,c]
 unfold zbx zmk
 rw [hF,if_neg (by simp),if_pos q]
theorem zuf {w : Img × Img} {l : List Mov} {s : Slt} (c : mvdI l s.path < 0) (q : zc8 w.1 w.2 s ≠ 1) : zbx w l s = ⟨2,s.at_,zt s.ty,0,s.ini,[]⟩ := by
 have hF : mvdF l s.path = (movZ,false) := by simp [mvdF,c]
 unfold zbx zmk
 rw [hF,if_neg (by simp),if_neg q]
theorem z95 (n : Int) : (zbv n).length = n.toNat := by simp [zbv]
theorem ydp {w : Img × Img} {l : List Mov} {st : List Int} (h : migOk w l st) {s : Slt} (hs : s ∈ w.2.slots) {fuel : Int} (f0 : 0 <= fuel) (f1 : fuel <= 20000) :
   ((oneM (zbx w l s) st fuel).e = 17 /\ (oneM (zbx w l s) st fuel).n = fuel) \/
   ((oneM (zbx w l s) st fuel).e ≠ 17 /\ (oneM (zbx w l s) st fuel).e = (zbd w l st s).2 /\ ((zbd w l st s).2 = 0 -> (oneM (zbx w l s) st fuel).v = (zbd w l st s).1) /\ 0 <= (oneM (zbx w l s) st fuel).n /\ (oneM (zbx w l s) st fuel).n <= fuel) := by
 have hst := h.st
 have hb := zad s.ty
 by_cases c : mvdI l s.path < 0
 rotate_left
 . obtain ⟨m,hm,h1,h2,h3⟩ := zj8 h hs c
   have hsm := zxd w (e := m.e) st.length (j := (zt s.ty).toNat) (h.sz _ hm) (by omega)
   have e1 : oneM (zbx w l s) st fuel = runF (zbx w l s) st fuel := by unfold oneM; rw [h3]; rfl
   have hv : okVm (zbx w l s).code (st ++ zbv (zbx w l s).len) fuel := by
     rw [h3]
     refine ⟨by simp; omega,by omega,fun i hi => ?_,by simp [z95]; omega,fun x hx => ?_⟩
     . simp only [List.mem_map,List.mem_append,List.mem_singleton] at hi
       obtain ⟨y,hy,rfl⟩ := hi
       rcases hy with hy | rfl
       . exact zzx h.arm (h.n _ hm) _ _ (fun k => by rw [zjv h2 (h.pl _ hm) k]; exact Nat.le_refl _) y hy
       . exact in0
     . rcases List.mem_append.1 hx with hx | hx
       . exact h.ci x hx
       . simp only [zbv,List.mem_replicate] at hx; rw [hx.2]; exact in0
   have hd := h.dp _ hm
   have := told_run h.run (by omega) (h.wh hm) h2 (by omega) (p := zbx w l s) (fuel := fuel) (by rw [h3]) (by rw [h3]) hv f0
   rw [e1,h1]
   rcases this with t | ⟨t1,t2,t3⟩
   . exact .inl t
   . refine .inr ⟨t1,t2,t3,?_⟩
     have hf := (zth hv).2
     have : (runF (zbx w l s) st fuel).n = (vmF (zbx w l s).code (st ++ zbv (zbx w l s).len) fuel).2.1 := by
       have hrF : runF (zbx w l s) st fuel = (let r := vmF (zbx w l s).code (st ++ zbv (zbx w l s).len) fuel; if r.2.2 = 0 then ⟨r.1.drop st.length,r.2.1,0⟩ else ⟨[],r.2.1,r.2.2⟩) := rfl
       rw [hrF]
       dsimp only
       split <;> rfl
     rw [this]
     omega
 right
 by_cases q : zc8 w.1 w.2 s = 1
 . have h3 := zv1 (l := l) c q
   have h1 : zbd w l st s = (zap w.1 st s.path,0) := by simp [zbd,c,q]
   have hn := ydl (zw1 q)
   rw [h1,h3]
   refine ⟨by simp [oneM],by simp [oneM],fun _ => ?_,by simp [oneM],by simp [oneM]; omega⟩
   simp only [oneM,if_true,zap,zkq]
   have : zt (w.1.slots.getD (fndI w.1.slots s.path).toNat default).ty = zt s.ty := by simp only [zt,hn]
   rw [this]
 . have h3 := zuf (l := l) c q
   have h1 : zbd w l st s = (s.ini,0) := by simp [zbd,c,q]
   rw [h1,h3]
   exact ⟨by simp [oneM],by simp [oneM],fun _ => by simp [oneM],by simp [oneM],by simp [oneM]; omega⟩
set_option linter.all false
set_option maxRecDepth 20000
open Go.Nk
def refF (w : Img × Img) (l : List Mov) (st : List Int) : List Slt -> List Int -> List Int × Int
 | [],o => (o,0)
 | s :: r,o => if (zbd w l st s).2 = 0 then refF w l st r (o ++ (zbd w l st s).1) else (o ++ (zbd w l st s).1,(zbd w l st s).2)
theorem z9p {w : Img × Img} {l : List Mov} {st : List Int} (h : migOk w l st) : ∀ (r : List Slt) (used : Int) (out : List Int),(∀ s ∈ r,s ∈ w.2.slots) -> 0 <= used -> used <= 20000 ->
   ((zgm (zdt (r.map (zbx w l)) st (20000 - used)) out used).2.2 = 17 /\ (zgm (zdt (r.map (zbx w l)) st (20000 - used)) out used).2.1 = 20000) \/
   ((zgm (zdt (r.map (zbx w l)) st (20000 - used)) out used).2.2 ≠ 17 /\ (zgm (zdt (r.map (zbx w l)) st (20000 - used)) out used).2.2 = (refF w l st r out).2 /\
     ((refF w l st r out).2 = 0 -> (zgm (zdt (r.map (zbx w l)) st (20000 - used)) out used).1 = (refF w l st r out).1) /\ ((refF w l st r out).2 ≠ 0 -> (zgm (zdt (r.map (zbx w l)) st (20000 - used)) out used).1 = []))
 | [],used,out,_,_,_ => .inr ⟨by simp [zdt,zgm],by simp [zdt,zgm,refF],fun _ => by simp [zdt,zgm,refF],fun e => absurd rfl e⟩
 | s :: r,used,out,hs,u0,u1 => by
   have hT : zgm (zdt ((s :: r).map (zbx w l)) st (20000 - used)) out used = if (oneM (zbx w l s) st (20000 - used)).e = 0 then zgm (zdt (r.map (zbx w l)) st (20000 - used - (oneM (zbx w l s) st (20000 - used)).n)) (out ++ (oneM (zbx w l s) st (20000 - used)).v) (used + (oneM (zbx w l s) st (20000 - used)).n)
       else ([],used + (oneM (zbx w l s) st (20000 - used)).n,(oneM (zbx w l s) st (20000 - used)).e) := by
     simp only [List.map_cons,zdt,zgm]
     split
     . rfl
     . rfl
   have hR : refF w l st (s :: r) out = if (zbd w l st s).2 = 0 then refF w l st r (out ++ (zbd w l st s).1) else (out ++ (zbd w l st s).1,(zbd w l st s).2) := rfl
   rw [hT,hR]
   rcases ydp h (hs s (by simp)) (fuel := 20000 - used) (by omega) (by omega) with ⟨t1,t2⟩ | ⟨t1,t2,t3,t4,t5⟩
   . left
     rw [if_neg (by omega)]
     exact ⟨t1,by show used + (oneM (zbx w l s) st (20000 - used)).n = 20000; omega⟩
   . by_cases z : (zbd w l st s).2 = 0
     . rw [if_pos z,if_pos (by omega),t3 z]
       have ih := z9p h r (used + (oneM (zbx w l s) st (20000 - used)).n) (out ++ (zbd w l st s).1) (fun y hy => hs y (by simp [hy])) (by omega) (by omega)
       rw [show 20000 - (used + (oneM (zbx w l s) st (20000 - used)).n) = 20000 - used - (oneM (zbx w l s) st (20000 - used)).n by omega] at ih
       exact ih
     . rw [if_neg z,if_neg (by omega)]
       exact .inr ⟨t1,t2,fun e => absurd e z,fun _ => rfl⟩
theorem zy9 {w : Img × Img} {l : List Mov} {st : List Int} (h : migOk w l st) : ∀ (r : List Slt) (a : Int),z1e a r -> (∀ s ∈ r,s ∈ w.2.slots) -> 0 <= a -> a + sumR r <= 1000 -> zd7 (r.map (zbx w l)) a st.length = true
 | [],_,_,_,_,_ => rfl
 | s :: r,a,hc,hs,h0,h1 => by
   obtain ⟨e,hc⟩ := hc
   have hb := zad s.ty
   have hr := z7q r
   rw [zh3] at h1
   have ih := zy9 h r (a + zt s.ty) hc (fun y hy => hs y (by simp [hy])) (by omega) (by omega)
   have hm := hs s (by simp)
   simp only [List.map_cons,zd7,Bool.and_eq_true]
   by_cases c : mvdI l s.path < 0
   rotate_left
   . obtain ⟨m,_,_,_,h3⟩ := zj8 h hm c
     rw [h3]
     refine ⟨?_,ih⟩
     simp only [zfs,Bool.and_eq_true,beq_iff_eq]
     refine ⟨⟨⟨⟨e,decide_eq_true ?_⟩,decide_eq_true ?_⟩,decide_eq_true ?_⟩,by simp⟩ <;> omega
   by_cases q : zc8 w.1 w.2 s = 1
   . rw [zv1 (l := l) c q]
     refine ⟨?_,ih⟩
     have hf := zj4 q
     obtain ⟨j,hj,hl⟩ := zca (m := w.1.slots) (p := s.path) (by omega)
     have hin := h.s.2.2 _ (List.mem_of_getElem? (z4 default hl))
     have hn := ydl (zw1 q)
     rw [hj,Int.toNat_natCast] at hn |-
     have : zt (w.1.slots.getD j default).ty = zt s.ty := by simp only [zt,hn]
     rw [this] at hin
     simp only [zfs,↓reduceIte,Bool.and_eq_true,beq_iff_eq]
     refine ⟨⟨⟨⟨e,decide_eq_true ?_⟩,decide_eq_true ?_⟩,decide_eq_true ?_⟩,⟨decide_eq_true ?_,decide_eq_true ?_⟩,decide_eq_true ?_⟩ <;> omega
   . rw [zuf (l := l) c q]
     refine ⟨?_,ih⟩
     have hi := h.ini s hm
     simp only [zfs,Bool.and_eq_true,beq_iff_eq]
     refine ⟨⟨⟨⟨e,decide_eq_true ?_⟩,decide_eq_true ?_⟩,decide_eq_true ?_⟩,?_⟩
     . omega
     . omega
     . omega
     . simp [hi]
theorem plan_ok {w : Img × Img} {l : List Mov} {st : List Int} (h : migOk w l st) (hn : w.2.slots.length <= 150) : okPs (w.2.slots.map (zbx w l)) st 20000 := by
 have hst := h.st
 refine ⟨by simpa using hn,by omega,fun p hp => ?_,⟨⟨by omega,by omega⟩,by omega⟩,h.ci⟩
 obtain ⟨s,hs,rfl⟩ := List.mem_map.1 hp
 have hb := zad s.ty
 by_cases c : mvdI l s.path < 0
 rotate_left
 . obtain ⟨m,hm,_,h2,h3⟩ := zj8 h hs c
   have hsm := zxd w (e := m.e) st.length (j := (zt s.ty).toNat) (h.sz _ hm) (by omega)
   rw [h3]
   refine ⟨by simp,by simp; omega,fun i hi => ?_⟩
   simp only [List.mem_map,List.mem_append,List.mem_singleton] at hi
   obtain ⟨y,hy,rfl⟩ := hi
   rcases hy with hy | rfl
   . exact zzx h.arm (h.n _ hm) _ _ (fun k => by rw [zjv h2 (h.pl _ hm) k]; exact Nat.le_refl _) y hy
   . exact in0
 by_cases q : zc8 w.1 w.2 s = 1
 . rw [zv1 (l := l) c q]
   exact ⟨by simp,by simp,fun i hi => by simp at hi⟩
 . rw [zuf (l := l) c q]
   have hi := h.ini s hs
   refine ⟨?_,by simp,fun i hi => by simp at hi⟩
   show s.ini.length <= 20
   omega
theorem plan_all {w : Img × Img} {l : List Mov} {st : List Int} (h : migOk w l st) (hc : z1e 0 w.2.slots) (h1 : sumR w.2.slots <= 1000) :
   ((allF (zf3 w l) st 20000).2.2 = 17 /\ (allF (zf3 w l) st 20000).2.1 = 20000) \/
   ((allF (zf3 w l) st 20000).2.2 ≠ 17 /\ (allF (zf3 w l) st 20000).2.2 = (refF w l st w.2.slots []).2 /\
     ((refF w l st w.2.slots []).2 = 0 -> (allF (zf3 w l) st 20000).1 = (refF w l st w.2.slots []).1) /\ ((refF w l st w.2.slots []).2 ≠ 0 -> (allF (zf3 w l) st 20000).1 = [])) := by
 have hr := zy9 h w.2.slots 0 hc (fun _ h => h) (Int.le_refl 0) (by omega)
 have e : allF (zf3 w l) st 20000 = zgm (zdt (w.2.slots.map (zbx w l)) st (20000 - 0)) [] 0 := by
   unfold allF
   rw [Int.sub_zero]
   exact if_pos hr
 rw [e]
 exact z9p h w.2.slots 0 [] (fun _ h => h) (Int.le_refl 0) (by omega)
set_option linter.all false
set_option maxRecDepth 20000
open Go.Nk
theorem z3r {i : Nat} : ∀ {l : List (List UInt8)} {k0 j k : Nat} {c : List UInt8},(j,k,c) ∈ zkb i k0 l -> j = i /\ k0 <= k /\ k < k0 + l.length
 | [],k0,j,k,c,h => by simp [zkb] at h
 | x :: l,k0,j,k,c,h => by
   simp only [zkb,List.mem_cons,Prod.mk.injEq] at h
   rcases h with ⟨rfl,rfl,_⟩ | h
   . simp
   . have := z3r h
     simp only [List.length_cons]
     omega
theorem zul : ∀ {l : List En} {i0 j k : Nat} {c : List UInt8},(j,k,c) ∈ zbu i0 l -> i0 <= j /\ j - i0 < l.length /\ k < (l.getD (j - i0) default).ct.length
 | [],i0,j,k,c,h => by simp [zbu] at h
 | x :: l,i0,j,k,c,h => by
   simp only [zbu,List.mem_append] at h
   rcases h with h | h
   . obtain ⟨rfl,_,h2⟩ := z3r h
     simp; omega
   . obtain ⟨h1,h2,h3⟩ := zul h
     obtain ⟨d,rfl⟩ : ∃ d,j = i0 + 1 + d := ⟨j - (i0 + 1),by omega⟩
     have e1 : i0 + 1 + d - i0 = d + 1 := by omega
     have e2 : i0 + 1 + d - (i0 + 1) = d := by omega
     rw [e1]
     rw [e2] at h2 h3
     refine ⟨by omega,by simp; omega,?_⟩
     simpa using h3
theorem zzr {s : List UInt8} : ∀ {l : List Trio},(zdx s l).2.2 = true -> ∃ i k : Nat,(i,k,s) ∈ l /\ zdx s l = (((i : Nat) : Int),((k : Nat) : Int),true)
 | [],h => by simp [zdx] at h
 | (i,k,c) :: l,h => by
   by_cases q : c = s
   . subst q
     exact ⟨i,k,by simp,by simp [zdx]⟩
   . have e : zdx s ((i,k,c) :: l) = zdx s l := by simp [zdx,q]
     rw [e] at h |-
     obtain ⟨i',k',h1,h2⟩ := zzr h
     exact ⟨i',k',by simp [h1],h2⟩
theorem z3v {l : List En} {s : List UInt8} (h : (armT l s).2.2 = true) : oneV l (armT l s).1 (armT l s).2.1 = true /\ ((armT l s).1 = ⟨2,0,0⟩ \/ ∃ i : Nat,i < l.length /\ (armT l s).1 = ⟨3,i,0⟩) := by
 unfold armT at h |-
 split
 . exact ⟨rfl,.inl rfl⟩
 split
 . exact ⟨rfl,.inl rfl⟩
 split
 . rename_i h1 h2 h3
   obtain ⟨i,k,m1,m2⟩ := zzr h3
   rw [m2]
   obtain ⟨_,p2,p3⟩ := zul m1
   rw [Nat.sub_zero] at p2 p3
   refine ⟨?_,.inr ⟨i,p2,rfl⟩⟩
   simp only [oneV]
   simp []
   simpa [List.getD_eq_getElem?_getD] using p3
 . rename_i h1 h2 h3
   rw [if_neg h1,if_neg h2,if_neg h3] at h
   cases h
theorem arm_in {l : List En} (hs : zgh l = true) (s : List UInt8) : in64 (armT l s).2.1 := by
 by_cases h : (armT l s).2.2 = true
 . unfold armT at h |-
   split
   . exact ⟨by simp,by simp⟩
   split
   . exact in0
   split
   . rename_i h1 h2 h3
     obtain ⟨i,k,m1,m2⟩ := zzr h3
     rw [m2]
     obtain ⟨_,p2,p3⟩ := zul m1
     rw [Nat.sub_zero] at p2 p3
     simp only [zgh,Bool.and_eq_true,decide_eq_true_eq,List.all_eq_true] at hs
     have := hs.2 (l.getD i default) (List.mem_of_getElem? (z4 default p2))
     simp only [zli,Bool.and_eq_true,decide_eq_true_eq] at this
     show in64 (k : Int)
     constructor <;> omega
   . exact in0
 . unfold armT at h |-
   split
   . exact ⟨by simp,by simp⟩
   split
   . exact in0
   split
   . rename_i h1 h2 h3
     rw [if_neg h1,if_neg h2,if_pos h3] at h
     exact absurd rfl h
   . exact in0
theorem arm_kind {l : List En} (hs : zgh l = true) (s : List UInt8) (h : (armT l s).2.2 = true) : 1 <= zb5 (armT l s).1 /\ zb5 (armT l s).1 <= 1000 := by
 simp only [zgh,Bool.and_eq_true,decide_eq_true_eq] at hs
 obtain ⟨_,e | ⟨i,hi,e⟩⟩ := z3v h
 . rw [e]; decide
 . rw [e]
   have : zb5 ⟨3,(i : Int),0⟩ = 3 + i := by
     have h1 : ((3 : Int) = 3 /\ (0 : Int) <= i /\ (i : Int) <= 1000) := ⟨rfl,by omega,by omega⟩
     exact if_pos h1
   rw [this]; omega
theorem ydx {a b : List En} {u : Ty} : ∀ (l : List En) (i : Int),0 <= i -> (zgb a b u l i).2 = true -> ∃ j : Int,i <= j /\ zgb a b u l i = (⟨3,j,u.n⟩,true) /\ zem a (oneT u) b ⟨3,j,0⟩ = true
 | [],i,_,h => by cases h
 | x :: l,i,h0,h => by
   simp only [zgb] at h |-
   split
   . rename_i c; exact ⟨i,Int.le_refl _,rfl,c⟩
   . rename_i c
     rw [if_neg c] at h
     obtain ⟨j,h1,h2,h3⟩ := ydx l (i + 1) (by omega) h
     exact ⟨j,by omega,h2,h3⟩
theorem z2s {a b : List En} {u t : Ty} (hh : zcc a b u = (t,true)) {x : Int} (h : oneV a u x = true) : oneV b t x = true := by
 unfold zcc at hh
 split at hh
 . rename_i hr
   split at hh
   . rename_i k3
     obtain ⟨j,_,h2,h3⟩ := ydx b 0 (Int.le_refl 0) (by rw [hh])
     rw [hh] at h2
     injection h2 with h2 _
     subst h2
     simp only [zem,oneT,k3,↓reduceIte,Bool.and_eq_true,zyi,decide_eq_true_eq] at h3
     have hct := h3.2.2
     simp only [oneV,k3] at h |-
     simp at h |-
     simp only [List.getD_eq_getElem?_getD] at hct
     rw [<- hct]
     exact h
   . rename_i k3
     injection hh with hh _
     subst hh
     have hk := ye9 hr
     simp only [oneV] at h |-
     rcases hk with k | k | k
     . simp [k]
     . simp [k] at h |-; exact h
     . exact absurd k k3
 . injection hh with _ h2; cases h2
theorem oneV_n (l : List En) (t : Ty) (x : Int) : oneV l (oneT t) x = oneV l t x := rfl
theorem z2w (l : List En) (b : Bool) : oneV l ⟨2,0,0⟩ (tr b) = true := by cases b <;> rfl
def stR (a : Img) (st : List Int) : Prop := ∀ p,0 <= fndI a.slots p -> zdh a.en (a.slots.getD (fndI a.slots p).toNat default).ty (zap a st p) = true
theorem zpt {w : Img × Img} {st : List Int} (hR : stR w.1 st) {p : List UInt8} (h : (zc1 w p).2 = true) : ∀ x ∈ zap w.1 st p,oneV w.2.en (zc1 w p).1 x = true := by
 intro x hx
 have hf := zci h
 have hr := hR p hf
 have hs : za5 w.1 p = (w.1.slots.getD (fndI w.1.slots p).toNat default,true) := by unfold za5; rw [if_neg (by omega)]
 unfold zc1 at h |-
 rw [hs] at h |-
 simp only [if_true] at h |-
 simp only [zdh,Bool.and_eq_true,List.all_eq_true] at hr
 have h1 := hr.2 x hx
 simp only [oneF,Bool.and_eq_true] at h1
 exact z2s (t := (zcc w.1.en w.2.en (w.1.slots.getD (fndI w.1.slots p).toNat default).ty).1) (Prod.ext rfl h) h1.2
theorem yeh {a b : Ty} (h : eqT a b = true) : a = b := by
 obtain ⟨a1,a2,a3⟩ := a
 obtain ⟨b1,b2,b3⟩ := b
 simp [eqT] at h
 simp [h]
set_option linter.all false
set_option maxRecDepth 20000
open Go.Nk
theorem z8y {l : List Int} {i : Nat} (h : i < l.length) : l.getD i 0 ∈ l := List.mem_of_getElem? (z4 0 h)
theorem ygf {w : Img × Img} {e : Ex} (h : (allT (e.subs.map (tyE w))).2 = true) {i : Nat} (hi : i < e.subs.length) : (allT (e.subs.map (tyE w))).1.getD i tyZ = (tyE w (e.subs.getD i default)).1 := by
 rw [(ziz h).1]
 simp [List.getD,hi]
theorem z4i {w : Img × Img} {st : List Int} (hR : stR w.1 st) (e : Ex) : valFit w st e -> (valE w st e).2 = 0 -> oneV w.2.en (tyE w e).1 (valE w st e).1 = true := by
 induction e using Ex.ind with
 | h e ih =>
   intro hf hz
   have hln := hf.pl.len
   have hpo := hf.pl.1 e (zgd e)
   simp only [zhf,Bool.and_eq_true] at hpo
   have hnum := hpo.1.1.1.1.1.2
   have hty := hf.ty
   have hk := znc hty
   have hvE := z1n w st e
   have htE := zif w e
   by_cases k1 : e.kind = 1
   . rw [if_pos k1] at htE
     rw [htE]; rfl
   by_cases k2 : e.kind = 2
   . rw [if_neg k1,if_pos k2] at htE
     rw [if_pos (.inr k2)] at hvE
     simp only [zf6,k2] at hnum
     simp at hnum
     rw [htE,hvE]
     simp only [oneV]
     simpa using hnum.2
   rw [if_neg k1,if_neg k2] at htE
   rw [if_neg (by omega)] at hvE
   by_cases k4 : e.kind = 4
   . rw [if_pos k4] at htE hvE
     rw [htE,hvE]
     exact (z3v (ty_arm hty k4)).1
   rw [if_neg k4] at htE hvE
   by_cases k17 : e.kind = 17
   . rw [if_pos k17] at htE hvE
     have hp := ty_old hty k17
     have hl := zkw hf.s (zci hp)
     have hb := zad (w.1.slots.getD (fndI w.1.slots e.name).toNat default).ty
     rw [htE,hvE]
     exact zpt hR hp _ (z8y (by omega))
   rw [if_neg k17] at htE hvE
   by_cases k15 : e.kind = 15
   . rw [if_neg (by omega),if_pos k15] at htE
     rw [if_pos k15] at hvE
     have hsb : za8 e = (2,2) := by simp [za8,k15]
     rw [hsb] at hln
     dsimp only at hln
     obtain ⟨t0,t1⟩ := zz6 hty k15 (by omega)
     rw [htE]
     rw [hvE] at hz |-
     simp only [zj7,oneV_n]
     generalize (e.subs.map (valE w st)).getD 1 (0,0) = v at *
     unfold getV at hz |-
     split at hz
     . rename_i c; exact absurd hz c
     . rename_i c
       rw [if_neg c]
       split at hz
       . cases hz
       . rename_i c2
         rw [if_neg c2]
         exact zpt hR t0 _ (z8y (by omega))
   rw [if_neg k15] at hvE
   have k : e.kind = 5 \/ e.kind = 6 \/ e.kind = 7 := by omega
   rw [if_pos k] at htE
   have ts := zrl hty k
   obtain ⟨to1,to2⟩ := ty_op hty k
   rw [htE]
   rw [hvE] at hz |-
   unfold opT at to2 |-
   rw [if_pos to1] at to2 |-
   unfold opV at hz |-
   split at hz
   . rename_i c; exact absurd hz c
   rename_i c0
   rw [if_neg c0]
   by_cases k5 : e.kind = 5
   . rw [if_pos k5] at to2 hz |-
     rw [if_pos k5]
     generalize (allT (e.subs.map (tyE w))).1.getD 0 tyZ = t at *
     unfold zpq at to2 |-
     split
     . rfl
     . rename_i c1
       rw [if_neg c1] at to2
       split
       . rename_i c2
         have : unF e.op ((e.subs.map (valE w st)).getD 0 (0,0)).1 = (tr (((e.subs.map (valE w st)).getD 0 (0,0)).1 == 0),0) := by unfold unF; rw [if_neg (by omega),if_pos c2.1]
         rw [this]
         exact z2w _ _
       . rename_i c2
         rw [if_neg c2] at to2
         cases to2
   rw [if_neg k5] at to2 hz |-
   rw [if_neg k5]
   by_cases k6 : e.kind = 6
   . rw [if_pos k6] at to2 |-
     rw [if_neg (by omega)] at hz |-
     split at hz
     . rename_i c; exact absurd hz c
     rename_i c1
     rw [if_neg c1]
     generalize (allT (e.subs.map (tyE w))).1.getD 0 tyZ = t at *
     generalize (allT (e.subs.map (tyE w))).1.getD 1 tyZ = u at *
     have ho := bin_op to2
     by_cases g1 : grpF e.op = 1
     . unfold zes at to2 |-
       rw [if_pos g1] at to2 |-
       split
       . rfl
       . rename_i c; rw [if_neg c] at to2; cases to2
     . have h8 : 8 <= e.op := by
         unfold grpF at g1
         grind
       have hb : (zes e.op t u).1 = ⟨2,0,0⟩ := by
         unfold zes at to2 |-
         rw [if_neg g1] at to2 |-
         split at to2
         . rename_i c; rw [if_pos c]
           split at to2
           . rename_i c2; rw [if_pos c2]
           . cases to2
         . rename_i c; rw [if_neg c]
           split at to2
           . rename_i c; rw [if_pos c]
             split at to2
             . rename_i c2; rw [if_pos c2]
             . cases to2
           . rename_i c; rw [if_neg c]
             split at to2
             . rename_i c; rw [if_pos c]
               split at to2
               . rename_i c2; rw [if_pos c2]
               . cases to2
             . cases to2
       have hv : ∀ a b,(binF e.op a b).1 = tr (z4p e.op a b) := fun a b => by unfold binF; rw [if_neg (by omega),if_pos (by omega)]
       rw [hb,hv]
       exact z2w _ _
   have k7 : e.kind = 7 := by omega
   rw [if_neg k6] at to2 |-
   rw [if_pos k7] at hz |-
   have hsb : za8 e = (3,3) := by simp [za8,k7]
   rw [hsb] at hln
   dsimp only at hln
   simp only [Bool.and_eq_true] at to2
   have h12 := yeh to2.2
   rw [ygf to1 (by omega),ygf to1 (by omega)] at h12
   simp only
   rw [ygf to1 (by omega)]
   have m1 : e.subs.getD 1 default ∈ e.subs := List.mem_of_getElem? (z4 default (by omega))
   have m2 : e.subs.getD 2 default ∈ e.subs := List.mem_of_getElem? (z4 default (by omega))
   split at hz
   . rename_i c; rw [if_pos c]
     rw [zft (by omega)] at hz |-
     exact ih _ m1 (hf.sub m1 (ts _ m1)) hz
   . rename_i c; rw [if_neg c]
     rw [zft (by omega)] at hz |-
     rw [h12]
     exact ih _ m2 (hf.sub m2 (ts _ m2)) hz
set_option linter.all false
set_option maxRecDepth 20000
open Go.Nk
theorem zpk : ∀ {vs : List (Int × Int)} {o : List Int},(zam vs o).2 = 0 -> (zam vs o).1 = o ++ vs.map (·.1) /\ ∀ v ∈ vs,v.2 = 0
 | [],o,_ => by simp [zam]
 | v :: vs,o,h => by
   by_cases q : v.2 = 0
   . have e1 : zam (v :: vs) o = zam vs (o ++ [v.1]) := by simp [zam,q]
     rw [e1] at h |-
     obtain ⟨h1,h2⟩ := zpk h
     refine ⟨by rw [h1]; simp,fun u hu => ?_⟩
     rcases List.mem_cons.1 hu with rfl | hu
     . exact q
     . exact h2 u hu
   . have e1 : zam (v :: vs) o = ([],v.2) := by simp [zam,q]
     rw [e1] at h
     exact absurd h q
theorem yar {l m : List Ty} (h : zgp l m < 0) : ∀ t ∈ l,t = m.getD 0 tyZ := by
 unfold zgp at h
 split at h
 . omega
 . rename_i hn
   intro t ht
   have := List.findIdx?_eq_none_iff.1 hn t ht
   simp only [Bool.not_eq_false'] at this
   exact yeh (by simpa using this)
theorem z5n {w : Img × Img} {st : List Int} (hR : stR w.1 st) {e : Ex} {t : Ty} (h : whFit w st e) (ht : ofT w e = (t,true)) (hz : (zav w st e).2 = 0) (hr : zbj w.2.en t = true) : zdh w.2.en t (zav w st e).1 = true := by
 have hw := zio h ht
 rw [hw] at hz
 have hl := (zpk hz).1
 rw [<- hw] at hl hz
 have hlen : ((zav w st e).1.length : Int) = zt t := by
   have hb := zad t
   rw [hl]; simp; omega
 simp only [zdh,Bool.and_eq_true,beq_iff_eq,List.all_eq_true]
 refine ⟨⟨hr,hlen⟩,fun x hx => ?_⟩
 simp only [oneF,Bool.and_eq_true]
 refine ⟨hr,?_⟩
 by_cases k17 : e.kind = 17
 . have e1 : zav w st e = (zap w.1 st e.name,0) := by simp [zav,k17]
   rw [e1] at hx
   unfold ofT at ht
   rw [if_pos k17] at ht
   have := zpt hR (p := e.name) (by rw [ht]) x hx
   rw [ht] at this
   exact this
 by_cases k14 : e.kind = 14
 . have e1 : zav w st e = zam (e.subs.map (valE w st)) [] := by simp [zav,k14]
   rw [e1] at hx hz
   obtain ⟨a1,a2⟩ := zpk hz
   rw [a1] at hx
   simp only [List.nil_append,List.mem_map] at hx
   obtain ⟨v,⟨y,hy,rfl⟩,rfl⟩ := hx
   have hv := z4i hR y (h.subs k14 y hy) (a2 _ (List.mem_map_of_mem hy))
   unfold ofT at ht
   rw [if_neg k17,if_pos k14] at ht
   split at ht
   . rename_i c
     have hu := yar c.2 (tyE w y).1 (by rw [(ziz c.1).1]; simp only [List.mem_map]; exact ⟨_,⟨y,hy,rfl⟩,rfl⟩)
     injection ht with ht _
     subst ht
     rw [hu] at hv
     exact hv
   . cases (Prod.mk.inj ht).2
 . have e1 : zav w st e = zam ([e].map (valE w st)) [] := by simp [zav,k14,k17]
   rw [e1] at hx hz
   obtain ⟨a1,a2⟩ := zpk hz
   rw [a1] at hx
   simp at hx
   subst hx
   have hv := z4i hR e (h.self k14 k17) (a2 _ (by simp))
   have e2 : ofT w e = tyE w e := by unfold ofT; rw [if_neg k17,if_neg k14]
   rw [<- e2,ht] at hv
   exact hv
theorem ybg {w : Img × Img} {l : List Mov} {st : List Int} (h : migOk w l st) (hR : stR w.1 st) {s : Slt} (hs : s ∈ w.2.slots) (hi : zdh w.2.en s.ty s.ini = true) (hz : (zbd w l st s).2 = 0) : zdh w.2.en s.ty (zbd w l st s).1 = true := by
 have hr : zbj w.2.en s.ty = true := by simp only [zdh,Bool.and_eq_true] at hi; exact hi.1.1
 by_cases c : mvdI l s.path < 0
 rotate_left
 . obtain ⟨m,hm,h1,h2,_⟩ := zj8 h hs c
   rw [h1] at hz |-
   exact z5n hR (h.wh hm) h2 hz hr
 by_cases q : zc8 w.1 w.2 s = 1
 . have h1 : zbd w l st s = (zap w.1 st s.path,0) := by simp [zbd,c,q]
   rw [h1]
   have hf := zj4 q
   have hh := zw1 q
   have hn := ydl hh
   have ho := hR s.path hf
   simp only [zdh,Bool.and_eq_true,beq_iff_eq,List.all_eq_true] at ho |-
   refine ⟨⟨hr,?_⟩,fun x hx => ?_⟩
   . rw [ho.1.2]; simp only [zt,hn]
   . have := ho.2 x hx
     simp only [oneF,Bool.and_eq_true] at this |-
     exact ⟨hr,z2s hh this.2⟩
 . have h1 : zbd w l st s = (s.ini,0) := by simp [zbd,c,q]
   rw [h1]
   exact hi
theorem z9g {w : Img × Img} {l : List Mov} {st : List Int} : ∀ {r : List Slt} {o : List Int},(refF w l st r o).2 = 0 -> (refF w l st r o).1 = o ++ (r.map fun s => (zbd w l st s).1).flatten /\ ∀ s ∈ r,(zbd w l st s).2 = 0
 | [],o,_ => by simp [refF]
 | s :: r,o,h => by
   by_cases q : (zbd w l st s).2 = 0
   . have e1 : refF w l st (s :: r) o = refF w l st r (o ++ (zbd w l st s).1) := if_pos q
     rw [e1] at h |-
     obtain ⟨h1,h2⟩ := z9g h
     refine ⟨by rw [h1]; simp,fun u hu => ?_⟩
     rcases List.mem_cons.1 hu with rfl | hu
     . exact q
     . exact h2 u hu
   . have e1 : refF w l st (s :: r) o = (o ++ (zbd w l st s).1,(zbd w l st s).2) := if_neg q
     rw [e1] at h
     exact absurd h q
theorem zwv {en : List En} (f : Slt -> List Int) : ∀ (r : List Slt) (o : List Int),z1e o.length r -> (∀ s ∈ r,zdh en s.ty (f s) = true) ->
   ((o ++ (r.map f).flatten).length : Int) = o.length + sumR r /\ (∀ s ∈ r,znx (o ++ (r.map f).flatten) s = true) /\ zfx en r (r.map (zud (o ++ (r.map f).flatten))) = true
 | [],o,_,_ => by simp [sumR,zfx]
 | s :: r,o,hc,hv => by
   obtain ⟨h1,h2⟩ := hc
   have hs := hv s (by simp)
   have hs' := hs
   simp only [zdh,Bool.and_eq_true,beq_iff_eq] at hs'
   have hl := hs'.1.2
   have hb := zad s.ty
   have hrb := z7q r
   have e : o ++ ((s :: r).map f).flatten = (o ++ f s) ++ (r.map f).flatten := by simp
   obtain ⟨i1,i2,i3⟩ := zwv f r (o ++ f s) (by rw [List.length_append,Int.natCast_add,hl]; exact h2) (fun y hy => hv y (by simp [hy]))
   rw [e]
   have hlen : (((o ++ f s) ++ (r.map f).flatten).length : Int) = o.length + sumR (s :: r) := by
     rw [i1,zh3,List.length_append]; omega
   refine ⟨hlen,fun y hy => ?_,?_⟩
   . rcases List.mem_cons.1 hy with rfl | hy
     . rw [zh3] at hlen
       simp only [znx,Bool.and_eq_true,decide_eq_true_eq]
       omega
     . exact i2 y hy
   . simp only [List.map_cons,zfx,Bool.and_eq_true]
     refine ⟨?_,i3⟩
     have : (zud ((o ++ f s) ++ (r.map f).flatten) s).vals = f s := by
       simp only [zud]
       have e1 : (s.at_ + zt s.ty).toNat = (o ++ f s).length := by rw [List.length_append]; omega
       have e2 : s.at_.toNat = o.length := by omega
       rw [e1,List.take_left,e2,List.drop_left]
     rw [this]
     exact hs
theorem yfh {w : Img × Img} {l : List Mov} {st : List Int} (h : migOk w l st) (hR : stR w.1 st) (hc : z1e 0 w.2.slots) (hi : ∀ s ∈ w.2.slots,zdh w.2.en s.ty s.ini = true) (hz : (refF w l st w.2.slots []).2 = 0) : ze9 w.2 (refF w l st w.2.slots []).1 = true := by
 obtain ⟨h1,h2⟩ := z9g hz
 obtain ⟨p1,p2,p3⟩ := zwv (en := w.2.en) (fun s => (zbd w l st s).1) w.2.slots [] hc fun s hs => ybg h hR hs (hi s hs) (h2 s hs)
 rw [<- h1] at p1 p2 p3
 have hrd : zkh w.2.slots (refF w l st w.2.slots []).1 = w.2.slots.map (zud (refF w l st w.2.slots []).1) := if_pos (List.all_eq_true.2 p2)
 simp only [ze9,Bool.and_eq_true,beq_iff_eq]
 refine ⟨⟨?_,by rw [hrd]; simp⟩,by rw [hrd]; exact p3⟩
 rw [p1,z5c]; simp
set_option linter.all false
set_option maxRecDepth 20000
open Go.Nk
theorem z1z : ∀ {r : List Slt} {a : Int} {s : Slt},z1e a r -> s ∈ r -> a <= s.at_ /\ s.at_ + zt s.ty <= a + sumR r
 | [],_,_,_,h => by simp at h
 | y :: r,a,s,hc,h => by
   obtain ⟨h1,h2⟩ := hc
   have hb := zad y.ty
   have hr := z7q r
   rw [zh3]
   rcases List.mem_cons.1 h with rfl | h
   . omega
   . have := z1z h2 h; omega
theorem zgo {x : Img} (h : zpr x = true) : z1e 0 x.slots /\ sumR x.slots <= 1000 /\ x.slots.length <= 120 /\ ∀ s ∈ x.slots,zdh x.en s.ty s.ini = true /\ x.slots.getD (fndI x.slots s.path).toNat default = s := by
 simp only [zpr,Bool.and_eq_true,beq_iff_eq] at h
 obtain ⟨⟨⟨⟨⟨⟨⟨_,_⟩,_⟩,_⟩,h2⟩,_⟩,_⟩,_⟩ := h
 simp only [zm6,Bool.and_eq_true,decide_eq_true_eq] at h2
 have hs := z2g x.slots 0 h2.2
 refine ⟨chain_of fun k s hx => ?_,by rw [<- z5c]; exact h2.1.2,h2.1.1,fun s hm => ?_⟩
 . have ho := hs k _ hx
   simp only [zy5,Nat.zero_add,Bool.and_eq_true,beq_iff_eq] at ho
   exact ho.1.2
 . obtain ⟨k,hk,rfl⟩ := List.mem_iff_getElem.1 hm
   have hx : x.slots[k]? = some x.slots[k] := List.getElem?_eq_getElem hk
   have ho := hs k _ hx
   simp only [zy5,Nat.zero_add,Bool.and_eq_true,beq_iff_eq] at ho
   refine ⟨ho.1.1.2,?_⟩
   rw [ho.2]
   simp [List.getD,hk]
theorem zr0 (w : Img × Img) : ∀ l : List Slt,((zan w l).length : Int) = sumR l
 | [] => rfl
 | s :: l => by
   have := zr0 w l
   have hb := zad s.ty
   rw [zi6,List.length_append,zh3,zia]
   omega
theorem z3t {w : Img × Img} : ∀ {l : List Mov} {n : Int},(zcb w l n).2 = 0 -> ∀ m ∈ l,oneE w m = 0
 | [],_,_,m,h => by simp at h
 | x :: l,n,hz,m,h => by
   by_cases q : oneE w x = 0
   . have e : zcb w (x :: l) n = zcb w l (n + 1) := if_pos q
     rw [e] at hz
     rcases List.mem_cons.1 h with rfl | h
     . exact q
     . exact z3t hz m h
   . have e : zcb w (x :: l) n = (n,oneE w x) := if_neg q
     rw [e] at hz
     exact absurd hz q
theorem zze {en : List En} {st : List Int} : ∀ {r : List Slt},zfx en r (r.map (zud st)) = true -> ∀ s ∈ r,zdh en s.ty (zkq st s) = true
 | [],_,s,h => by simp at h
 | y :: r,hc,s,h => by
   simp only [List.map_cons,zfx,Bool.and_eq_true] at hc
   rcases List.mem_cons.1 h with rfl | h
   . exact hc.1
   . exact zze hc.2 s h
theorem yg0 {x : Img} (h : fewF x = true) : zgh x.en = true := by
 simp only [fewF,Bool.and_eq_true] at h
 exact h.1.1.1.1.1.1
theorem right_pl {e : Ex} (h : zgl e = true) : okPl e /\ zaq e <= 60 /\ zc0 e <= 12 := by
 simp only [zgl,Bool.and_eq_true,decide_eq_true_eq,List.all_eq_true] at h
 exact ⟨⟨h.2,by omega⟩,h.1.1,h.1.2⟩
theorem ygn {a b : Img} {l : List Mov} (h : fitF a b l = true) : zpa (a,b) /\ l.length <= 50 /\ ∀ m ∈ l,okPl m.e /\ zaq m.e <= 60 /\ zc0 m.e <= 12 := by
 simp only [fitF,Bool.and_eq_true,List.all_eq_true] at h
 obtain ⟨⟨⟨⟨⟨h1,h2⟩,h3⟩,h4⟩,h5⟩,h6⟩ := h
 obtain ⟨d1,d2,d3⟩ := zok h1
 obtain ⟨d4,d5,d6⟩ := zok h2
 obtain ⟨c1,c2,c3,c4⟩ := zgo h4
 refine ⟨⟨⟨⟨d1,d4⟩,⟨by have := d4.2.1; show b.en.length <= 1000000000; omega,d4.1⟩⟩,fun p => ?_⟩,?_,fun m hm => right_pl (h6 m hm)⟩
 . by_cases c : fndI a.slots p < 0
   . have : za5 a p = (⟨[],⟨0,0,0⟩,0,[]⟩,false) := by simp [za5,c]
     dsimp only
     rw [this]
     simp
   . obtain ⟨j,hj,hl⟩ := zca c
     have : za5 a p = (a.slots.getD j default,true) := by unfold za5; rw [hj,if_neg (by omega),Int.toNat_natCast]
     dsimp only
     rw [this]
     have := z1z c1 (List.mem_of_getElem? (z4 default hl))
     have hb := zad (a.slots.getD j default).ty
     dsimp only
     omega
 . simp only [fewM,Bool.and_eq_true,decide_eq_true_eq] at h3
   exact h3.1
theorem zzg {a : Img} {st : List Int} (h4 : zpr a = true) (hs : ze9 a st = true) : inSt a st /\ stR a st /\ (st.length : Int) = sumR a.slots := by
 obtain ⟨c1,c2,c3,c4⟩ := zgo h4
 simp only [ze9,Bool.and_eq_true,beq_iff_eq] at hs
 obtain ⟨⟨s1,s2⟩,s3⟩ := hs
 rw [z5c] at s1
 have hin : inSt a st := ⟨by omega,by omega,fun s hm => by have := z1z c1 hm; omega⟩
 refine ⟨hin,fun p hp => ?_,s1⟩
 have hrd : zkh a.slots st = a.slots.map (zud st) := if_pos (List.all_eq_true.2 fun s hm => by
   have := hin.2.2 s hm
   simp only [znx,Bool.and_eq_true,decide_eq_true_eq]
   omega)
 rw [hrd] at s3
 obtain ⟨j,hj,hl⟩ := zca (m := a.slots) (p := p) (by omega)
 have := zze s3 (a.slots.getD j default) (List.mem_of_getElem? (z4 default hl))
 rw [hj,Int.toNat_natCast]
 have hc : zap a st p = zkq st (a.slots.getD j default) := by simp [zap,hj]
 rw [hc]
 exact this
theorem mig_of {a b : Img} {l : List Mov} {st : List Int} (h : fitF a b l = true) (hs : ze9 a st = true) (hc : (zcb (a,b) l 0).2 = 0) (hn : ∀ m ∈ l,okN m.e) (ci : ∀ x ∈ st,in64 x) : migOk (a,b) l st := by
 obtain ⟨f1,f2,f3⟩ := ygn h
 simp only [fitF,Bool.and_eq_true,List.all_eq_true] at h
 obtain ⟨⟨⟨⟨⟨h1,h2⟩,h3⟩,h4⟩,h5⟩,h6⟩ := h
 obtain ⟨c1,c2,c3,c4⟩ := zgo h4
 obtain ⟨g1,g2,g3,g4⟩ := zgo h5
 obtain ⟨r1,r2,r3⟩ := zzg h4 hs
 have hsb := yg0 h2
 refine ⟨f1,fun s => arm_in hsb s,r1,ci,⟨by omega,fun s hh => arm_kind hsb s hh⟩,by omega,fun m hm => (f3 m hm).1,hn,fun m hm => (f3 m hm).2.1,fun m hm => (f3 m hm).2.2,z3t hc,?_,by omega,fun s hm => (g4 s hm).2,fun s hm => ?_⟩
 . have := zr0 (a,b) a.slots
   dsimp only
   omega
 . have := (g4 s hm).1
   simp only [zdh,Bool.and_eq_true,beq_iff_eq] at this
   exact this.1.2
end Go.Proofs.YtjgefhgkinocmaaGreat
