/- Arguments that say more than is asked, in parts too. -/
import Derived.Test.YtbneclkckmdkgaaGreatDoorK3
import Derived.Test.YtbneclkckmdkgaaGreatDoorK2
import Derived.Test.YtbneclkckmdkgaaGreatDoorJ6
set_option linter.all false
set_option linter.unusedVariables false
set_option linter.unusedSimpArgs false
namespace Go.Sym
open Go
inductive WkA:PV→PV→Prop
 | wk {x y:PV} (h:Wk x y):WkA x y
 | lend {sz:Nat} {full full':Bool} {rows:List (List PV)} (hf:impB full full'=true):WkA (.sl true 0 full sz rows) (.sl false 0 full' sz rows)
 | bor {nn sz:Nat} {full full':Bool} {rows rows':List (List PV)} (hf:impB full full'=true) (hr:WkR rows rows'):WkA (.sl true 0 full sz rows) (.sl true nn full' sz rows')
 | agg {xs ys:List PV} (hl:xs.length=ys.length) (h:∀ (i:Nat) x y,xs[i]?=some x→ys[i]?=some y→WkA x y):WkA (.agg xs) (.agg ys)
structure WkAL (xs ys:List PV):Prop where
 len:xs.length=ys.length
 at':∀ (j:Nat) x y,xs[j]?=some x→ys[j]?=some y→WkA x y
theorem WkA.refl (x:PV):WkA x x:=.wk (.refl x)
theorem WkAL.nil:WkAL [] []:=⟨rfl,by simp⟩
theorem WkAL.refl (xs:List PV):WkAL xs xs:=⟨rfl,fun j x y h1 h2=>by rw[h1] at h2;cases h2;exact .refl x⟩
theorem WkAL.cons {x y:PV} {xs ys:List PV} (h:WkA x y) (t:WkAL xs ys):WkAL (x::xs) (y::ys) :=
 ⟨by simp [t.len],fun j a b p q=>by
  cases j with
  | zero=>simp at p q;subst p;subst q;exact h
  | succ j=>exact t.at' j a b (by simpa using p) (by simpa using q)⟩
theorem WkA.agg' {xs ys:List PV} (h:WkAL xs ys):WkA (.agg xs) (.agg ys):=.agg h.len h.at'
theorem Rep.wkA {c:RC} (kr:∀ b,c.Xk b→c.Xr b) {x y:PV} (h:WkA x y):∀ {v:Value},Rep c y v→Rep c x v:=by
 induction h with
 | wk h=>exact fun p=>p.wk h
 | @lend sz full full' rows hf =>
  intro v hv
  have hv:Rep c (.sl false 0 full sz rows) v:=hv.wk (.sl' rfl hf (.refl _))
  generalize hx:PV.sl false 0 full sz rows=x at hv
  cases hv with
  | plain p =>
   cases p with
   | slnil=>cases hx;exact .slbnil _ _
   | sl _ _ _ a n cap _ vals hn' hc hf2 h2 hX hs' hcell h1 hrep=>cases hx;exact .slb 0 full rows a n cap sz vals hn' hc hf2 h2 (fun e=>⟨kr _ (hX e).1,(hX e).2⟩) hs' hcell h1 hrep
   | _=>cases hx
  | _=>cases hx
 | @bor nn sz full full' rows rows' hf hr =>
  intro v hv
  replace hv:=hv.wkR hr
  have hff:∀ {cap n:Nat},(full'=true→cap=n)→full=true→cap=n:=fun h e=>h (by cases full<;>cases full'<;>simp_all [impB])
  generalize hx:PV.sl true nn full' sz rows=x at hv
  cases hv with
  | plain p=>cases p<;>cases hx
  | slbnil=>cases hx;exact .slbnil _ _
  | slb _ _ _ a n cap _ vals hn' hc hf2 h2 hX hs' hcell h1 hrep=>cases hx;exact .slb 0 full rows a n cap sz vals hn' hc (hff hf2) (fun e=>by cases e) hX hs' hcell h1 hrep
  | _=>cases hx
 | @agg xs ys hl _ ih =>
  intro v p
  obtain⟨vs,rfl,hr⟩:=p.agg_inv
  refine .agg _ vs (by rw[hl];exact hr.1) fun i x v q r=>?_
  have hi:=(List.getElem?_eq_some_iff.1 q).1
  have hi':i<ys.length:=by rw[← hl];exact hi
  exact ih i x ys[i] q (by simp [hi']) (hr.2 i ys[i] v (by simp [hi']) r)
theorem Fn.wkA {P:Program} {f:Nat} {args args' res:List PV} {H H':List Sym.Obj} (h:Fn P f args H res H') (w:WkAL args args'):Fn P f args' H res H':=by
 have key:∀ {c:RC} {vs:Array Value},(∀ b,c.Xk b→c.Xr b)→RepL c args' vs→RepL c args vs:=by
  intro c vs kr hr
  refine⟨by rw[w.len];exact hr.1,fun i x v q r=>?_⟩
  have hi:=(List.getElem?_eq_some_iff.1 q).1
  have hi':i<args'.length:=by rw[← w.len];exact hi
  exact(hr.2 i args'[i] v (by simp [hi']) r).wkA kr (w.at' i x args'[i] q (by simp [hi']))
 rcases h with ⟨h1,h2⟩ | ⟨h1,h2⟩
 ·exact .inl ⟨h1,fun c vs h64 hi hr=>h2 c vs h64 hi (key hi.kr hr)⟩
 ·exact .inr ⟨h1,fun c vs h64 hi hr=>h2 c vs h64 hi (key hi.kr hr)⟩
structure LexP extends Lex where
 dig:Nat→List UInt8
 leafX:∀ w x,leaf w=some x→x=.path w∨∃ n,x=.num n∧dig n=w
theorem Der.up {L:Lex} {k:Nat} {s:List UInt8} {e:Xp} (h:Der L k s e) (hk:k≤2):Der L 2 s e:=by
 match k,hk with
 | 0,_=>exact .up1 (.up0 h)
 | 1,_=>exact .up1 h
 | 2,_=>exact h
def comma:ByteArray:=⟨#[44]⟩
def splitLC:List UInt8→List (List UInt8)
 | []=>[[]]
 | c::r=>if c=44 then[]::splitLC r else match splitLC r with
  | p::ps=>(c::p)::ps
  | []=>[[c]]
theorem splitL_neC (l:List UInt8):splitLC l≠[]:=by
 induction l with
 | nil=>simp [splitLC]
 | cons c r ih =>
  simp only [splitLC]
  split
  ·simp
  ·split<;>simp
theorem splitL_noneC {l:List UInt8} (h:∀ c∈l,c≠44):splitLC l=[l]:=by
 induction l with
 | nil=>rfl
 | cons c r ih=>simp only [splitLC];rw[if_neg (h c (by simp)),ih fun c hc=>h c (by simp [hc])]
theorem splitL_atC:∀ {l:List UInt8} {m:Nat},l[m]?=some 44→(∀ j,j<m→l[j]?≠some 44)→splitLC l=l.take m::splitLC (l.drop (m+1))
 | [],m,h,_=>by simp at h
 | c::r,0,h,_=>by
  simp at h;subst h;simp [splitLC]
 | c::r,m+1,h,hn=>by
  have hc:c≠44:=by have:=hn 0 (by omega);simpa using this
  have:=splitL_atC (l:=r) (m:=m) (by simpa using h) fun j hj=>by have:=hn (j+1) (by omega);simpa using this
  simp only [splitLC,if_neg hc,this,List.take_succ_cons,List.drop_succ_cons]
def piecesC (s:ByteArray):List ByteArray:=(splitLC s.data.toList).map ofL
def cntC (s:ByteArray):Int:=(Lib.countByte s.data.toList 44:Nat)
def idxC (s:ByteArray):Int:=Lib.indexByte s.data.toList 44
theorem count_atC:∀ {l:List UInt8} {m:Nat},l[m]?=some 44→(∀ j,j<m→l[j]?≠some 44)→l.count 44=(l.drop (m+1)).count 44+1
 | [],m,h,_=>by simp at h
 | c::r,0,h,_=>by simp at h;subst h;simp
 | c::r,m+1,h,hn=>by
  have hc:c≠44:=by have:=hn 0 (by omega);simpa using this
  have:=count_atC (l:=r) (m:=m) (by simpa using h) fun j hj=>by have:=hn (j+1) (by omega);simpa using this
  rw[List.count_cons_of_ne hc,this,List.drop_succ_cons]
theorem cnt_posC {s:ByteArray} (h:0<cntC s):0≤idxC s∧idxC s<s.size∧piecesC s=s.extract 0 (idxC s).toNat::piecesC (s.extract ((idxC s).toNat+1) s.size)∧cntC (s.extract ((idxC s).toNat+1) s.size)=cntC s-1:=by
 have hge:=Lib.indexByte_ge s.data.toList 44
 by_cases hn:idxC s=-1
 ·have:=Lib.indexByte_none hn
  have hc:s.data.toList.count 44=0:=List.count_eq_zero.2 fun hm=>by
   obtain⟨k,hk,e⟩:=List.getElem_of_mem hm
   exact this k (List.getElem?_eq_some_iff.2 ⟨hk,e⟩)
  simp [cntC,Lib.countByte,hc] at h
 ·have hpos:0≤idxC s:=by unfold idxC at *;omega
  obtain⟨o,ho⟩:=Int.eq_ofNat_of_zero_le hpos
  obtain⟨h1,h2⟩:=Lib.indexByte_some (show Lib.indexByte s.data.toList 44=o from ho)
  have hlt:o<s.size:=by rw[← size_list];exact(List.getElem?_eq_some_iff.1 h1).1
  have hd:(s.extract (o+1) s.size).data.toList=s.data.toList.drop (o+1):=by rw[toL_extract,← size_list,List.take_length]
  refine⟨hpos,by omega,?_,?_⟩
  ·rw[ho,Int.toNat_natCast,piecesC,piecesC,hd,splitL_atC h1 h2,List.map_cons]
   refine congrArg (·::_) (eq_of_toL ?_)
   rw[toL_ofL,toL_extract,List.drop_zero]
  ·rw[ho,Int.toNat_natCast]
   simp only [cntC,Lib.countByte,hd,count_atC h1 h2]
   omega
theorem cnt_zeroC {s:ByteArray} (h:cntC s≤0):piecesC s=[s]:=by
 have hc:s.data.toList.count 44=0:=by simp only [cntC,Lib.countByte] at h;omega
 rw[piecesC,splitL_noneC fun c hm e=>by subst e;exact List.count_eq_zero.1 hc hm]
 rfl
theorem cnt_leC (s:ByteArray):0≤cntC s∧cntC s≤s.size:=by
 have:=List.count_le_length (a:=(44:UInt8)) (l:=s.data.toList)
 rw[size_list] at this
 simp only [cntC,Lib.countByte];omega
theorem splitL_lenC (l:List UInt8):(splitLC l).length≤l.length+1∧∀ p∈splitLC l,p.length≤l.length:=by
 induction l with
 | nil=>simp [splitLC]
 | cons c r ih =>
  simp only [splitLC]
  split
  ·refine⟨by simp;omega,fun p hp=>?_⟩
   rcases List.mem_cons.1 hp with rfl|hp
   ·simp
   ·have:=ih.2 p hp;simp;omega
  ·split
   ·rename_i q qs hq
    rw[hq] at ih
    refine⟨by have:=ih.1;simp at this ⊢;omega,fun p hp=>?_⟩
    rcases List.mem_cons.1 hp with rfl|hp
    ·have:=ih.2 q (by simp);simp;omega
    ·have:=ih.2 p (by simp [hp]);simp;omega
   ·simp
open Go Go.Proofs Go.Proofs.Tryz
set_option maxRecDepth 10000
theorem shape_str {n:Nat} {xs:List PV} (h:shape prog n 9 xs):∃ s:ByteArray,xs=[.str s]∧s.size≤9223372036854775807:=by
 cases n with
 | zero=>exact h.elim
 | succ n=>simp only [shape,Tryz.underlying9] at h;exact h
theorem shape_int {n:Nat} {xs:List PV} (h:shape prog n 3 xs):∃ m:Int,xs=[.int .i64 m]∧-9223372036854775808≤m∧m≤9223372036854775807:=by
 cases n with
 | zero=>exact h.elim
 | succ n =>
  simp only [shape,Tryz.underlying3] at h
  obtain⟨m,rfl,hm⟩:=h
  refine⟨m,rfl,?_⟩
  simp only [Lit.wf,Bool.and_eq_true,decide_eq_true_eq] at hm
  exact hm
def inInt (m:Int):Prop:=-9223372036854775808≤m∧m≤9223372036854775807
def inStr (s:ByteArray):Prop:=s.size≤9223372036854775807
theorem c3:prog.cellsOf 3=1:=by decide +kernel
theorem c9:prog.cellsOf 9=1:=by decide +kernel
theorem rows_of {α:Type} {e:α→List PV} {In:α→Prop} {Q:List PV→Prop} (hq:∀ r,Q r→∃ a,r=e a∧In a):∀ {rows:List (List PV)},(∀ r∈rows,Q r)→∃ l:List α,rows=l.map e∧∀ a∈l,In a
 | [],_=>⟨[],rfl,by simp⟩
 | r::rows,h=>by
  obtain⟨a,ha,ia⟩:=hq r (h r (by simp))
  obtain⟨l,hl,il⟩:=rows_of (rows:=rows) hq fun r hr=>h r (List.mem_cons_of_mem _ hr)
  exact⟨a::l,by simp [ha,hl],by simpa using⟨ia,il⟩⟩
theorem rows_wkx {α:Type} {e:α→List PV} {In:α→Prop} {Q:List PV→Prop} (hq:∀ r,Q r→∃ a,WkL (e a) r∧In a):∀ {rows:List (List PV)},(∀ r∈rows,Q r)→∃ l:List α,WkR (l.map e) rows∧l.length=rows.length∧∀ a∈l,In a
 | [],_=>⟨[],.refl _,rfl,by simp⟩
 | r::rows,h=>by
  obtain⟨a,ha,ia⟩:=hq r (h r (by simp))
  obtain⟨l,hl,ll,il⟩:=rows_wkx (rows:=rows) hq fun r hr=>h r (List.mem_cons_of_mem _ hr)
  exact⟨a::l,.cons ha hl,by simp [ll],by simpa using⟨ia,il⟩⟩
end Go.Sym
