/- Expressions: how the program reads a text: from its first sign. -/
import Derived.Test.YtfdbdalnpdgfmaaGreatDoorK8
set_option linter.all false
set_option linter.unusedVariables false
set_option linter.unusedSimpArgs false
namespace Go.Sym
inductive Nd where
 | mk (kind:Int) (text:List UInt8) (num:Int) (args:List Nd)
def zeroN:Nd:=.mk 0 [] 0 []
def sumN (a b:Nd):Nd:=.mk 3 [] 0 [a,b]
def mulN (a b:Nd):Nd:=.mk 4 [] 0 [a,b]
def callN (w:List UInt8) (a:Nd):Nd:=.mk 5 w 0 [a]
def Xp.nd:Xp→Nd
 | .path w=>.mk 1 w 0 []
 | .num n=>.mk 2 [] n []
 | .sum a b=>sumN a.nd b.nd
 | .mul a b=>mulN a.nd b.nd
 | .call w a=>callN w a.nd
structure LexT extends Lex where
 leafT:List UInt8→Nd×Bool
 leafT_ok:∀ w x,leaf w=some x→leafT w=(x.nd,false)
 leafT_no:∀ w,leaf w=none→(leafT w).2=true
mutual
def partD (L:LexT):Nat→List UInt8→Nd×List UInt8×Bool
 | 0,s=>(zeroN,s,true)
 | n+1,s =>
  match s.dropWhile L.isW with
  | 40::r =>
   if s.takeWhile L.isW=[] then innerD L n r
   else if L.name (s.takeWhile L.isW)=true then(callN (s.takeWhile L.isW) (innerD L n r).1,(innerD L n r).2.1,(innerD L n r).2.2)
   else((L.leafT (s.takeWhile L.isW)).1,40::r,(L.leafT (s.takeWhile L.isW)).2)
  | r=>((L.leafT (s.takeWhile L.isW)).1,r,(L.leafT (s.takeWhile L.isW)).2)
termination_by n=>(n,0)
def loopP (L:LexT):Nat→Nd→List UInt8→Bool→Nd×List UInt8×Bool
 | n+1,x,42::s,false=>loopP L n (mulN x (partD L n s).1) (partD L n s).2.1 (partD L n s).2.2
 | _,x,s,b=>(x,s,b)
termination_by n=>(n,0)
def prodD (L:LexT) (n:Nat) (s:List UInt8):Nd×List UInt8×Bool:=loopP L n (partD L n s).1 (partD L n s).2.1 (partD L n s).2.2
termination_by (n,1)
def loopS (L:LexT):Nat→Nd→List UInt8→Bool→Nd×List UInt8×Bool
 | n+1,x,43::s,false=>loopS L n (sumN x (prodD L n s).1) (prodD L n s).2.1 (prodD L n s).2.2
 | _,x,s,b=>(x,s,b)
termination_by n=>(n,2)
def sumD (L:LexT) (n:Nat) (s:List UInt8):Nd×List UInt8×Bool:=loopS L n (prodD L n s).1 (prodD L n s).2.1 (prodD L n s).2.2
termination_by (n,3)
def innerD (L:LexT) (n:Nat) (s:List UInt8):Nd×List UInt8×Bool :=
 match (sumD L n s).2 with
 | (41::t,false)=>((sumD L n s).1,t,false)
 | (t,_)=>((sumD L n s).1,t,true)
termination_by (n,4)
end
theorem loopP_star {L:LexT} {n:Nat} {x:Nd} {s:List UInt8}:loopP L (n+1) x (42::s) false=loopP L n (mulN x (partD L n s).1) (partD L n s).2.1 (partD L n s).2.2:=by rw[loopP]
theorem loopS_plus {L:LexT} {n:Nat} {x:Nd} {s:List UInt8}:loopS L (n+1) x (43::s) false=loopS L n (sumN x (prodD L n s).1) (prodD L n s).2.1 (prodD L n s).2.2:=by rw[loopS]
theorem loopP_end {L:LexT} {n:Nat} {x:Nd} {s:List UInt8} {b:Bool} (h:∀ s',s=42::s'→b=true):loopP L n x s b=(x,s,b):=by
 unfold loopP
 split
 ·have:=h _ rfl;cases this
 ·rfl
theorem loopS_end {L:LexT} {n:Nat} {x:Nd} {s:List UInt8} {b:Bool} (h:∀ s',s=43::s'→b=true):loopS L n x s b=(x,s,b):=by
 unfold loopS
 split
 ·have:=h _ rfl;cases this
 ·rfl
theorem span_w {L:LexT} (s:List UInt8):s=s.takeWhile L.isW++s.dropWhile L.isW:=List.takeWhile_append_dropWhile.symm
theorem sound {L:LexT}:∀ n,
  (∀ s x t,partD L n s=(x,t,false)→∃ p e,s=p++t∧Der L.toLex 0 p e∧x=e.nd) ∧
  (∀ p0 e0 s x t b,Der L.toLex 1 p0 e0→loopP L n e0.nd s b=(x,t,false)→∃ p e,p0++s=p++t∧Der L.toLex 1 p e∧x=e.nd) ∧
  (∀ p0 e0 s x t b,Der L.toLex 2 p0 e0→loopS L n e0.nd s b=(x,t,false)→∃ p e,p0++s=p++t∧Der L.toLex 2 p e∧x=e.nd):=by
 intro n
 induction n with
 | zero =>
  refine⟨fun s x t h=>?_,fun p0 e0 s x t b d h=>?_,fun p0 e0 s x t b d h=>?_⟩
  ·simp [partD] at h
  ·simp only [loopP,Prod.mk.injEq] at h;obtain⟨rfl,rfl,_⟩:=h;exact⟨p0,e0,rfl,d,rfl⟩
  ·simp only [loopS,Prod.mk.injEq] at h;obtain⟨rfl,rfl,_⟩:=h;exact⟨p0,e0,rfl,d,rfl⟩
 | succ n ih =>
  obtain⟨i1,i2,i3⟩:=ih
  have j1:∀ s x t,prodD L n s=(x,t,false)→∃ p e,s=p++t∧Der L.toLex 1 p e∧x=e.nd:=fun s x t h=>by
   rw[prodD] at h
   have hb:(partD L n s).2.2=false:=by
    cases hb:(partD L n s).2.2 with
    | false=>rfl
    | true=>rw[hb,loopP_end (fun _ _=>rfl)] at h;cases h
   obtain⟨p,e,h1,h2,h3⟩:=i1 s (partD L n s).1 (partD L n s).2.1 (by rw[← hb])
   rw[h3] at h
   obtain⟨q,f,k1,k2,k3⟩:=i2 p e _ x t _ (.up0 h2) h
   exact⟨q,f,by rw[← k1];exact h1,k2,k3⟩
  have j2:∀ s x t,sumD L n s=(x,t,false)→∃ p e,s=p++t∧Der L.toLex 2 p e∧x=e.nd:=fun s x t h=>by
   rw[sumD] at h
   have hb:(prodD L n s).2.2=false:=by
    cases hb:(prodD L n s).2.2 with
    | false=>rfl
    | true=>rw[hb,loopS_end (fun _ _=>rfl)] at h;cases h
   obtain⟨p,e,h1,h2,h3⟩:=j1 s (prodD L n s).1 (prodD L n s).2.1 (by rw[← hb])
   rw[h3] at h
   obtain⟨q,f,k1,k2,k3⟩:=i3 p e _ x t _ (.up1 h2) h
   exact⟨q,f,by rw[← k1];exact h1,k2,k3⟩
  have j3:∀ s x t,innerD L n s=(x,t,false)→∃ p e,s=p++41::t∧Der L.toLex 2 p e∧x=e.nd:=fun s x t h=>by
   rw[innerD] at h
   split at h
   ·rename_i t' ht
    simp only [Prod.mk.injEq,and_true] at h
    obtain⟨rfl,rfl⟩:=h
    exact j2 s _ _ (by rw[← ht])
   ·simp at h
  have lf:∀ w,(L.leafT w).2=false→∃ e,L.leaf w=some e∧(L.leafT w).1=e.nd:=fun w h=>by
   cases hl:L.leaf w with
   | none=>rw[L.leafT_no w hl] at h;cases h
   | some e=>exact⟨e,rfl,by rw[L.leafT_ok w e hl]⟩
  refine⟨fun s x t h=>?_,fun p0 e0 s x t b d h=>?_,fun p0 e0 s x t b d h=>?_⟩
  ·rw[partD] at h
   have hs:=span_w (L:=L) s
   split at h
   ·rename_i r hr
    rw[hr] at hs
    split at h
    ·rename_i hw
     rw[hw,List.nil_append] at hs
     obtain⟨p,e,h1,h2,h3⟩:=j3 r x t h
     exact⟨40::(p++[41]),e,by rw[hs,h1];simp,.paren h2,h3⟩
    ·split at h
     ·rename_i hn
      simp only [Prod.mk.injEq] at h
      obtain⟨rfl,rfl,hb⟩:=h
      obtain⟨p,e,h1,h2,h3⟩:=j3 r (innerD L n r).1 (innerD L n r).2.1 (by rw[← hb])
      exact⟨s.takeWhile L.isW++40::(p++[41]),.call _ e,by rw[List.append_assoc,List.cons_append,List.append_assoc,List.singleton_append,← h1];exact hs,.call hn h2,by rw[h3];rfl⟩
     ·simp only [Prod.mk.injEq] at h
      obtain⟨rfl,rfl,hb⟩:=h
      obtain⟨e,h1,h2⟩:=lf _ hb
      exact⟨_,e,hs,.leaf h1,h2⟩
   ·simp only [Prod.mk.injEq] at h
    obtain⟨rfl,rfl,hb⟩:=h
    obtain⟨e,h1,h2⟩:=lf _ hb
    exact⟨_,e,hs,.leaf h1,h2⟩
  ·by_cases hs:(∃ s',s=42::s')∧b=false
   ·obtain⟨⟨s',rfl⟩,rfl⟩:=hs
    rw[loopP_star] at h
    have hb:(partD L n s').2.2=false:=by
     cases hb:(partD L n s').2.2 with
     | false=>rfl
     | true=>rw[hb,loopP_end (fun _ _=>rfl)] at h;cases h
    obtain⟨p,e,h1,h2,h3⟩:=i1 s' (partD L n s').1 (partD L n s').2.1 (by rw[← hb])
    rw[h3] at h
    obtain⟨q,f,k1,k2,k3⟩:=i2 (p0++42::p) (.mul e0 e) _ x t _ (.mul d h2) h
    refine⟨q,f,?_,k2,k3⟩
    rw[← k1,List.append_assoc,List.cons_append,← h1]
   ·rw[loopP_end (fun s' e=>by cases b with|true=>rfl|false=>exact absurd ⟨⟨s',e⟩,rfl⟩ hs)] at h
    simp only [Prod.mk.injEq] at h;obtain⟨rfl,rfl,_⟩:=h;exact⟨p0,e0,rfl,d,rfl⟩
  ·by_cases hs:(∃ s',s=43::s')∧b=false
   ·obtain⟨⟨s',rfl⟩,rfl⟩:=hs
    rw[loopS_plus] at h
    have hb:(prodD L n s').2.2=false:=by
     cases hb:(prodD L n s').2.2 with
     | false=>rfl
     | true=>rw[hb,loopS_end (fun _ _=>rfl)] at h;cases h
    obtain⟨p,e,h1,h2,h3⟩:=j1 s' (prodD L n s').1 (prodD L n s').2.1 (by rw[← hb])
    rw[h3] at h
    obtain⟨q,f,k1,k2,k3⟩:=i3 (p0++43::p) (.sum e0 e) _ x t _ (.sum d h2) h
    refine⟨q,f,?_,k2,k3⟩
    rw[← k1,List.append_assoc,List.cons_append,← h1]
   ·rw[loopS_end (fun s' e=>by cases b with|true=>rfl|false=>exact absurd ⟨⟨s',e⟩,rfl⟩ hs)] at h
    simp only [Prod.mk.injEq] at h;obtain⟨rfl,rfl,_⟩:=h;exact⟨p0,e0,rfl,d,rfl⟩
def afterW (L:LexT) (t:List UInt8):Prop:=∀ c r,t=c::r→L.isW c=false∧c≠40
def Done (L:LexT):Nat→List UInt8→Xp→Prop
 | 0,s,e=>∀ t n,(s++t).length<n→afterW L t→partD L n (s++t)=(e.nd,t,false)
 | 1,s,e=>∀ t n,(s++t).length<n→afterW L t→∃ m,t.length<m∧prodD L n (s++t)=loopP L m e.nd t false
 | _,s,e=>∀ t n,(s++t).length<n→afterW L t→(∀ r,t≠42::r)→∃ m,t.length<m∧sumD L n (s++t)=loopS L m e.nd t false
theorem afterW_cons {L:LexT} {c:UInt8} {t:List UInt8} (h:L.isW c=false) (k:c≠40):afterW L (c::t):=fun d r e=>by cases e;exact⟨h,k⟩
theorem notW {L:LexT} {c:UInt8} (h:c=40∨c=41∨c=42∨c=43):L.isW c=false:=by
 cases k:L.isW c with
 | false=>rfl
 | true=>have:=L.wpar c k;rcases h with h|h|h|h<;>simp [h] at this
theorem takeW {L:LexT} {w t:List UInt8} (hw:∀ c∈w,L.isW c=true) (ht:∀ c r,t=c::r→L.isW c=false):(w++t).takeWhile L.isW=w∧(w++t).dropWhile L.isW=t:=by
 rw[List.takeWhile_append_of_pos hw,List.dropWhile_append_of_pos hw]
 cases t with
 | nil=>simp
 | cons c r=>simp [ht c r rfl]
theorem inner_of {L:LexT} {s t:List UInt8} {e:Xp} (h:Done L 2 s e) {n:Nat} (hn:(s++41::t).length<n):innerD L n (s++41::t)=(e.nd,t,false):=by
 obtain⟨m,_,hm⟩:=h (41::t) n hn (afterW_cons (notW (by simp)) (by decide)) (fun r k=>by simp at k)
 rw[loopS_end (fun s' k=>by simp at k)] at hm
 rw[innerD,hm];rfl
theorem done {L:LexT} {k:Nat} {s:List UInt8} {e:Xp} (h:Der L.toLex k s e):Done L k s e:=by
 induction h with
 | @leaf w x h =>
  intro t n hn ht
  obtain⟨m,rfl⟩:∃ m,n=m+1:=⟨n-1,by omega⟩
  have hw:=L.leafW _ _ h
  obtain⟨h1,h2⟩:=takeW (L:=L) hw.2 fun c r e=>(ht c r e).1
  rw[partD,h1,h2]
  split
  ·exact absurd rfl (ht _ _ rfl).2
  ·rw[L.leafT_ok _ _ h]
 | @paren s x h ih =>
  intro t n hn ht
  obtain⟨m,rfl⟩:∃ m,n=m+1:=⟨n-1,by omega⟩
  have e:40::(s++[41])++t=[]++40::(s++41::t):=by simp
  obtain⟨h1,h2⟩:=takeW (L:=L) (w:=[]) (t:=40::(s++41::t)) (by simp) fun c r e=>by cases e;exact notW (by simp)
  rw[e,partD,h1,h2]
  simp only [if_true]
  rw[inner_of ih (by simp at hn ⊢;omega)]
 | @call w s x hw h ih =>
  intro t n hn ht
  obtain⟨m,rfl⟩:∃ m,n=m+1:=⟨n-1,by omega⟩
  have hw2:=L.nameW _ hw
  have e:w++40::(s++[41])++t=w++40::(s++41::t):=by simp
  obtain⟨h1,h2⟩:=takeW (L:=L) (w:=w) (t:=40::(s++41::t)) hw2.2 fun c r e=>by cases e;exact notW (by simp)
  rw[e,partD,h1,h2]
  simp only [if_neg hw2.1,if_pos hw]
  rw[inner_of ih (by simp at hn ⊢;omega)];rfl
 | up0 h ih =>
  intro t n hn ht
  exact⟨n,by simp at hn;omega,by rw[prodD,ih t n hn ht]⟩
 | @mul a b x y h k ih jh =>
  intro t n hn ht
  have e:a++42::b++t=a++42::(b++t):=by simp
  rw[e] at hn ⊢
  obtain⟨m,hm,hp⟩:=ih (42::(b++t)) n hn (afterW_cons (notW (by simp)) (by decide))
  obtain⟨m,rfl⟩:∃ m',m=m'+1:=⟨m-1,by omega⟩
  have hb:(b++t).length<m:=by simp only [List.length_cons] at hm;omega
  rw[hp,loopP_star,jh t m hb ht]
  exact⟨m,by simp at hb;omega,rfl⟩
 | @up1 s x h ih =>
  intro t n hn ht h42
  obtain⟨m,hm,hp⟩:=ih t n hn ht
  rw[loopP_end (fun s' k=>absurd k (h42 s'))] at hp
  exact⟨n,by simp at hn;omega,by rw[sumD,hp]⟩
 | @sum a b x y h k ih jh =>
  intro t n hn ht h42
  have e:a++43::b++t=a++43::(b++t):=by simp
  rw[e] at hn ⊢
  obtain⟨m,hm,hp⟩:=ih (43::(b++t)) n hn (afterW_cons (notW (by simp)) (by decide)) (fun r k=>by simp at k)
  obtain⟨m,rfl⟩:∃ m',m=m'+1:=⟨m-1,by omega⟩
  have hb:(b++t).length<m:=by simp only [List.length_cons] at hm;omega
  obtain⟨j,hj,hq⟩:=jh t m hb ht
  rw[loopP_end (fun s' k=>absurd k (h42 s'))] at hq
  rw[hp,loopS_plus,hq]
  exact⟨m,by simp at hb;omega,rfl⟩
theorem parse_some {L:LexT} {s:List UInt8} {e:Xp} {n:Nat} (hn:s.length<n) (h:Der L.toLex 2 s e):sumD L n s=(e.nd,[],false):=by
 obtain⟨m,_,hm⟩:=done h [] n (by simpa using hn) (fun c r k=>by simp at k) (fun r k=>by simp at k)
 rw[List.append_nil,loopS_end (fun s' k=>by simp at k)] at hm
 exact hm
theorem parse_sound {L:LexT} {s:List UInt8} {x:Nd} {n:Nat} (h:sumD L n s=(x,[],false)):∃ e,Der L.toLex 2 s e∧x=e.nd:=by
 obtain⟨i1,i2,i3⟩:=sound (L:=L) n
 rw[sumD] at h
 have hb:(prodD L n s).2.2=false:=by
  cases hb:(prodD L n s).2.2 with
  | false=>rfl
  | true=>rw[hb,loopS_end (fun _ _=>rfl)] at h;simp at h
 have hc:(partD L n s).2.2=false:=by
  cases hc:(partD L n s).2.2 with
  | false=>rfl
  | true=>rw[prodD,hc,loopP_end (fun _ _=>rfl)] at hb;simp at hb
 obtain⟨p,e,h1,h2,h3⟩:=i1 s (partD L n s).1 (partD L n s).2.1 (by rw[← hc])
 have hp:prodD L n s=loopP L n e.nd (partD L n s).2.1 (partD L n s).2.2:=by rw[prodD,h3]
 obtain⟨q,f,k1,k2,k3⟩:=i2 p e _ (prodD L n s).1 (prodD L n s).2.1 _ (.up0 h2) (by rw[← hp,← hb])
 rw[k3] at h
 obtain⟨q',f',l1,l2,l3⟩:=i3 q f _ x [] _ (.up1 k2) h
 rw[List.append_nil] at l1
 exact⟨f',by rw[h1,k1,l1];exact l2,l3⟩
end Go.Sym
