/- MoveDoes. -/
import Derived.Test.YtjgefhgkinocmaaGreatMvE
set_option linter.all false
set_option maxRecDepth 20000
namespace Go.Proofs.YtjgefhgkinocmaaGreat
open Go.Nk
noncomputable def z7s : List DV -> Prop × DV := zbp eI fun n => (True,.int .i64 n)
theorem zfr (n : Int) : z7s [.int .i64 n] = (True,.int .i64 n) := z8 zcr _ n
theorem zij : OkP Tryz.prog 9 z7s := by
 refine OkP.mk1 (ps := []) (hs := []) trivial trivial zs7 fun n _ => ?_
 ((refine Todo.of ?_); (repeat' (first | ((with_reducible refine Todo.to ?_); (repeat (simp only [↓rP,rT,eI,zb,dval,retV,DR.val,fzT,fzV,fz1,DV.immB,↓reduceIte,reduceCtorEq,zjp ]))))))
noncomputable def z6g : List DV -> Prop × DV := ybi (True,.bool true)
theorem zd9 : z6g [] = (True,.bool true) := ztu _
def pEx : Pln := ⟨1,0,2,1,[],[]⟩
theorem znp : OkP Tryz.prog 7 z6g := by
 refine OkP.mk0 (ps := [(20,yct),(9,z7s),(12,zz8)]) (hs := []) ⟨z6s,zij,yfo,trivial⟩ trivial zp7 fun _ => ?_
 have e := yc6 pEx [7,8,9] 0
 have h : okP1 pEx [7,8,9] 0 := ⟨by decide,by decide,by decide,by decide,by intro x hx; simp at hx; rcases hx with rfl | rfl | rfl <;> exact ⟨by omega,by omega⟩,by intro i hi; cases hi⟩
 rw [eq_true h] at e
 have ea : zxf pEx [7,8,9] 0 = ⟨[8,9],0,0⟩ := rfl
 rw [ea] at e
 have e2 : il [7,8,9] = [[.int .i64 7],[.int .i64 8],[.int .i64 9]] := rfl
 have e3 : il [8,9] = [[.int .i64 8],[.int .i64 9]] := rfl
 have ev := zyb [8,9] [8,9]
 simp only [pEx,List.map_nil,z3g,cPln,il,List.map_cons] at e ev
 ((have hcondQ := Bool.and_self; refine Todo.of ?_); (repeat' (first | ((with_reducible refine Todo.to ?_); (repeat (simp only [↓rP,rT,rU,zr,zb,dval,dBin,dInt,retV,DR.val,fzT,fzVs,fzV,fz1,DV.immB,ze,zf,zp,zo,zx,zi,zq,fzLL,fzL,bRow,bU,cellsOf,zk,DV.isU,Nat.reduceEqDiff,Nat.reduceAdd,↓reduceIte,reduceCtorEq,Nat.reduceLeDiff,Nat.reduceLT,forall_const,zh5,zfr,e,ev,hcondQ]))))))
theorem z3j : ∀ (ts : List Told) (out : List Int) (used : Int),(∀ t ∈ ts,t.v.length <= 20) -> (zgm ts out used).1.length <= out.length + 20 * ts.length
 | [],out,used,_ => by simp [zgm]
 | t :: r,out,used,h => by
   simp only [zgm]
   split
   . have := z3j r (out ++ t.v) (used + t.n) fun s hs => h s (by simp [hs])
     have h1 := h t (by simp)
     simp only [List.length_append,List.length_cons] at this |-
     omega
   . simp
theorem all_len {l : List Pln} {old : List Int} {fuel : Int} (h : okPs l old fuel) : (allF l old fuel).1.length <= 1000000000 := by
 unfold allF
 split
 . rename_i hr
   have h1 := zz1 h l 0 0 (fun _ h => h) (Int.le_refl _) (by omega) (Int.le_refl _) hr
   rw [Int.sub_zero] at h1
   have h2 := z3j (zdt l old fuel) [] 0 fun t ht => (h1 t ht).1
   have h3 := zw5 old l fuel
   have := h.n
   simp only [List.length_nil] at h2
   omega
 . simp
end Go.Proofs.YtjgefhgkinocmaaGreat
