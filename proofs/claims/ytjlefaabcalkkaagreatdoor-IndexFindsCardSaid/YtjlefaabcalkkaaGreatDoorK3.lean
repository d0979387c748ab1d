/- Expressions: which one a text is, by its last sign and by its first. -/
set_option linter.all false
set_option linter.unusedVariables false
set_option linter.unusedSimpArgs false
namespace Go.Sym
inductive Xp where
 | path (w:List UInt8)
 | num (n:Nat)
 | sum (a b:Xp)
 | mul (a b:Xp)
 | call (w:List UInt8) (a:Xp)
def parV (c:UInt8):Int:=if c=40 then 1 else if c=41 then -1 else 0
def net:List UInt8→Int
 | []=>0
 | c::r=>parV c+net r
theorem net_append (a b:List UInt8):net (a++b)=net a+net b:=by
 induction a with
 | nil=>simp [net]
 | cons c r ih=>simp only [List.cons_append,net,ih];omega
theorem net_nil:net []=0:=rfl
theorem net_cons (c:UInt8) (r:List UInt8):net (c::r)=parV c+net r:=rfl
def lastR (c:UInt8):List UInt8→Option Nat
 | []=>none
 | d::r=>if d=c∧net r.reverse=0 then some r.length else lastR c r
def lastN (c:UInt8) (s:List UInt8):Option Nat:=lastR c s.reverse
theorem lastN_nil (c:UInt8):lastN c []=none:=rfl
theorem lastN_snoc (c d:UInt8) (p:List UInt8):lastN c (p++[d])=if d=c∧net p=0 then some p.length else lastN c p:=by
 simp [lastN,lastR]
def noTop (c:UInt8) (s:List UInt8):Prop:=∀ p q,s=p++c::q→net p≠0
theorem snocRec {P:List UInt8→Prop} (h0:P []) (h1:∀ p d,P p→P (p++[d])) (s:List UInt8):P s:=by
 have:∀ r:List UInt8,P r.reverse:=fun r=>by
  induction r with
  | nil=>exact h0
  | cons d r ih=>rw[List.reverse_cons];exact h1 _ _ ih
 have h:=this s.reverse
 rwa [List.reverse_reverse] at h
theorem snoc_split {p a q:List UInt8} {d c:UInt8} (h:p++[d]=a++c::q):(q=[]∧a=p∧c=d)∨∃ q',q=q'++[d]∧p=a++c::q':=by
 have:=List.append_eq_append_iff.1 h
 rcases this with ⟨az,h1,h2⟩ | ⟨bs,h1,h2⟩
 ·cases az with
  | nil=>simp at h1 h2;exact .inl ⟨h2.2.symm ▸ rfl,h1,h2.1.symm⟩
  | cons x xs=>simp at h2
 ·cases bs with
  | nil=>simp at h1 h2;exact .inl ⟨h2.2,h1.symm,h2.1⟩
  | cons x xs =>
   simp only [List.cons_append,List.cons.injEq] at h2
   exact .inr ⟨xs,h2.2,by rw[h1,h2.1]⟩
theorem lastN_none {c:UInt8} {s:List UInt8}:lastN c s=none ↔ noTop c s:=by
 induction s using snocRec with
 | h0=>simp [lastN_nil,noTop]
 | h1 p d ih =>
  rw[lastN_snoc]
  constructor
  ·intro h a q e
   split at h
   ·cases h
   ·rename_i hn
    rcases snoc_split e with ⟨_,rfl,rfl⟩ | ⟨q',_,e'⟩
    ·exact fun k=>hn ⟨rfl,k⟩
    ·exact ih.1 h a q' e'
  ·intro h
   rw[if_neg (fun k=>h p [] (by rw[k.1]) k.2)]
   exact ih.2 fun a q e=>h a (q++[d]) (by rw[e];simp)
theorem lastN_some {c:UInt8} (hc:parV c=0) {s:List UInt8} {i:Nat} (h:lastN c s=some i):∃ a b,s=a++c::b∧a.length=i∧net a=0∧noTop c b:=by
 induction s using snocRec generalizing i with
 | h0=>simp [lastN_nil] at h
 | h1 p d ih =>
  rw[lastN_snoc] at h
  split at h
  ·rename_i k
   cases h
   exact⟨p,[],by rw[k.1],rfl,k.2,fun a q e=>by simp at e⟩
  ·rename_i hn
   obtain⟨a,b,e,hl,h0,ht⟩:=ih h
   refine⟨a,b++[d],by rw[e];simp,hl,h0,fun x q e2=>?_⟩
   rcases snoc_split e2 with ⟨_,rfl,rfl⟩ | ⟨q',_,e'⟩
   ·intro k
    apply hn
    refine⟨rfl,?_⟩
    rw[e,net_append,net_cons,h0,hc,k];rfl
   ·exact ht x q' e'
theorem lastN_at {c : UInt8} (hc : parV c = 0) {a b : List UInt8} (h0 : net a = 0) (hb : noTop c b) : lastN c (a ++ c :: b) = some a.length := by
  induction b using snocRec with
  | h0 => rw [lastN_snoc, if_pos ⟨rfl, h0⟩]
  | h1 p d ih =>
    rw [show a ++ c :: (p ++ [d]) = (a ++ c :: p) ++ [d] by simp, lastN_snoc, if_neg]
    · exact ih fun x q e => hb x (q ++ [d]) (by rw [e]; simp)
    · rintro ⟨rfl, k⟩
      rw [net_append, net_cons, h0, hc] at k
      exact hb p [] rfl (by omega)
/-! ### The grammar -/
structure Lex where
 name:List UInt8→Bool
 leaf:List UInt8→Option Xp
 isW:UInt8→Bool
 wpar:∀ c,isW c=true→c≠40∧c≠41∧c≠42∧c≠43
 nameW:∀ w,name w=true→w≠[]∧∀ c∈w,isW c=true
 leafW:∀ w x,leaf w=some x→w≠[]∧∀ c∈w,isW c=true
inductive Der (L:Lex):Nat→List UInt8→Xp→Prop
 | leaf {w x} (h:L.leaf w=some x):Der L 0 w x
 | paren {s x} (h:Der L 2 s x):Der L 0 (40::(s++[41])) x
 | call {w s x} (hw:L.name w=true) (h:Der L 2 s x):Der L 0 (w++40::(s++[41])) (.call w x)
 | up0 {s x} (h:Der L 0 s x):Der L 1 s x
 | mul {a b x y} (h:Der L 1 a x) (k:Der L 0 b y):Der L 1 (a++42::b) (.mul x y)
 | up1 {s x} (h:Der L 1 s x):Der L 2 s x
 | sum {a b x y} (h:Der L 2 a x) (k:Der L 1 b y):Der L 2 (a++43::b) (.sum x y)
def Bal (s:List UInt8):Prop:=net s=0∧∀ p q,s=p++q→0≤net p
theorem Bal.nil:Bal []:=⟨rfl,fun p q e=>by have:=(List.append_eq_nil_iff.1 e.symm).1;subst this;exact Int.le_refl _⟩
theorem Bal.append {a b:List UInt8} (ha:Bal a) (hb:Bal b):Bal (a++b):=by
 refine⟨by rw[net_append,ha.1,hb.1];rfl,fun p q e=>?_⟩
 rcases List.append_eq_append_iff.1 e with ⟨x,h1,h2⟩ | ⟨x,h1,h2⟩
 ·rw[h1,net_append,ha.1];have:=hb.2 x q h2;omega
 ·exact ha.2 p x h1
theorem Bal.one {c:UInt8} (h:parV c=0):Bal [c]:=by
 refine⟨by simp [net,h],fun p q e=>?_⟩
 cases p with
 | nil=>exact Int.le_refl _
 | cons d r =>
  simp only [List.cons_append,List.cons.injEq] at e
  obtain⟨rfl,e⟩:=e
  have:=(List.append_eq_nil_iff.1 e.symm).1
  subst this
  simp [net,h]
theorem Bal.all {s:List UInt8} (h:∀ c∈s,parV c=0):Bal s:=by
 induction s with
 | nil=>exact Bal.nil
 | cons c r ih=>exact Bal.append (a:=[c]) (Bal.one (h c (by simp))) (ih fun d hd=>h d (List.mem_cons_of_mem _ hd))
theorem Bal.paren_pos {s p q:List UInt8} (hs:Bal s) (h:40::(s++[41])=p++q) (hp:p≠[]) (hq:q≠[]):0<net p:=by
 cases p with
 | nil=>exact absurd rfl hp
 | cons d r =>
  simp only [List.cons_append,List.cons.injEq] at h
  obtain⟨rfl,h⟩:=h
  rw[net_cons]
  rcases List.append_eq_append_iff.1 h with ⟨x,h1,h2⟩ | ⟨x,h1,h2⟩
  ·cases x with
   | nil=>have:=hs.2 s [] (by simp);simp only [List.append_nil] at h1;rw[h1,show parV 40=1 from rfl];omega
   | cons y ys =>
    simp only [List.cons_append,List.cons.injEq] at h2
    exact absurd (List.append_eq_nil_iff.1 h2.2.symm).2 hq
  ·have:=hs.2 r x h1;rw[show parV 40=1 from rfl];omega
theorem Bal.paren {s:List UInt8} (hs:Bal s):Bal (40::(s++[41])):=by
 have h0:net (40::(s++[41]))=0:=by rw[net_cons,net_append,hs.1];decide
 refine⟨h0,fun p q e=>?_⟩
 by_cases hp:p=[]
 ·subst hp;exact Int.le_refl _
 ·by_cases hq:q=[]
  ·subst hq;rw[List.append_nil] at e;rw[← e,h0];exact Int.le_refl _
  ·have:=hs.paren_pos e hp hq;omega
theorem parV_w {L:Lex} {c:UInt8} (h:L.isW c=true):parV c=0:=by
 have:=L.wpar c h
 rw[parV,if_neg this.1,if_neg this.2.1]
theorem Der.bal {L:Lex} {k:Nat} {s:List UInt8} {x:Xp} (h:Der L k s x):Bal s∧s≠[]:=by
 induction h with
 | leaf h=>exact⟨Bal.all fun c hc=>parV_w ((L.leafW _ _ h).2 c hc),(L.leafW _ _ h).1⟩
 | paren h ih=>exact⟨ih.1.paren,by simp⟩
 | call hw h ih=>exact⟨Bal.append (Bal.all fun c hc=>parV_w ((L.nameW _ hw).2 c hc)) ih.1.paren,by simp⟩
 | up0 h ih=>exact ih
 | mul h k ih jh=>exact⟨ih.1.append (Bal.append (a:=[42]) (Bal.one (by decide)) jh.1),by simp⟩
 | up1 h ih=>exact ih
 | sum h k ih jh=>exact⟨ih.1.append (Bal.append (a:=[43]) (Bal.one (by decide)) jh.1),by simp⟩
theorem noTop_w {L:Lex} {w:List UInt8} (h:∀ c∈w,L.isW c=true):noTop 42 w∧noTop 43 w :=
 ⟨fun p q e=>absurd rfl (L.wpar 42 (h 42 (by rw[e];simp))).2.2.1,fun p q e=>absurd rfl (L.wpar 43 (h 43 (by rw[e];simp))).2.2.2⟩
theorem noTop_paren {c:UInt8} (hc:c≠40∧c≠41) {s:List UInt8} (hs:Bal s):noTop c (40::(s++[41])):=fun p q e=>by
 have hp:p≠[]:=fun k=>by subst k;simp at e;exact hc.1 e.1.symm
 have:=hs.paren_pos e hp (by simp)
 omega
theorem noTop_append {c:UInt8} {a b:List UInt8} (h0:net a=0) (ha:noTop c a) (hb:noTop c b):noTop c (a++b):=fun p q e=>by
 rcases List.append_eq_append_iff.1 e with ⟨x,h1,h2⟩ | ⟨x,h1,h2⟩
 ·rw[h1,net_append,h0];have:=hb x q h2;omega
 ·cases x with
  | nil=>simp at h1 h2;rw[← h1,h0];have:=hb [] q h2.symm;simp [net] at this
  | cons y ys =>
   simp only [List.cons_append,List.cons.injEq] at h2
   obtain⟨rfl,h2⟩:=h2
   exact ha p ys h1
theorem Der.top0 {L:Lex} {s:List UInt8} {x:Xp} (h:Der L 0 s x):noTop 42 s∧noTop 43 s:=by
 cases h with
 | leaf h=>exact noTop_w (L.leafW _ _ h).2
 | paren h=>exact⟨noTop_paren (by decide) h.bal.1,noTop_paren (by decide) h.bal.1⟩
 | call hw h =>
  have w:=noTop_w (L:=L) (L.nameW _ hw).2
  have b:net _=0:=(Bal.all fun c hc=>parV_w ((L.nameW _ hw).2 c hc)).1
  exact⟨noTop_append b w.1 (noTop_paren (by decide) h.bal.1),noTop_append b w.2 (noTop_paren (by decide) h.bal.1)⟩
theorem noTop_sep {c d:UInt8} (hd:parV d=0) (hcd:c≠d) {b:List UInt8} (hb:noTop c b):noTop c (d::b) :=
 noTop_append (a:=[d]) (by simp [net,hd]) (fun p q e=>by
  cases p with
  | nil=>simp at e;exact absurd e.1.symm hcd
  | cons y ys=>simp at e) hb
theorem Der.top1 {L : Lex} {k : Nat} {s : List UInt8} {x : Xp} (h : Der L k s x) (hk : k ≤ 1) : noTop 43 s := by
  induction h with
  | leaf h => exact (Der.leaf h).top0.2
  | paren h => exact (Der.paren h).top0.2
  | call hw h => exact (Der.call hw h).top0.2
  | up0 h ih => exact ih (by omega)
  | mul h k ih jh => exact noTop_append h.bal.1.1 (ih (by omega)) (noTop_sep (by decide) (by decide) (jh (by omega)))
  | up1 h ih => omega
  | sum h k ih jh => omega
/-! ### Reading by the last sign -/
def wholeB (s:List UInt8):Prop:=net s=0∧2≤s.length∧∀ p q,s=p++q→p≠[]→q≠[]→0<net p
theorem snoc_of {s:List UInt8} (h:s≠[]):∃ t e,s=t++[e]:=by
 induction s using snocRec with
 | h0=>exact absurd rfl h
 | h1 p e _=>exact⟨p,e,rfl⟩
theorem whole_iff {s:List UInt8}:wholeB s ↔ ∃ t,s=40::(t++[41])∧Bal t:=by
 constructor
 ·rintro ⟨h0,hl,h⟩
  match s,hl with
  | c::d::r,_ =>
   have hc:c=40:=by
    have:=h [c] (d::r) rfl (by simp) (by simp)
    simp only [net,parV] at this
    split at this
    ·assumption
    ·split at this<;>omega
   subst hc
   obtain⟨t,e,hte⟩:=snoc_of (s:=d::r) (by simp)
   rw[hte] at h0 h ⊢
   have ht:0<net (40::t):=h (40::t) [e] rfl (by simp) (by simp)
   rw[net_cons,net_append,net_cons,net_nil,show parV 40=1 from rfl] at h0
   rw[net_cons,show parV 40=1 from rfl] at ht
   have he:e=41∧net t=0:=by
    simp only [parV] at h0
    split at h0
    ·omega
    ·split at h0
     ·rename_i k;exact⟨k,by omega⟩
     ·omega
   obtain⟨rfl,h3⟩:=he
   refine⟨t,rfl,h3,fun p q e=>?_⟩
   have:=h (40::p) (q++[41]) (by rw[e];simp) (by simp) (by simp)
   rw[net_cons,show parV 40=1 from rfl] at this
   omega
 ·rintro ⟨t,rfl,ht⟩
  exact⟨ht.paren.1,by simp,fun p q e hp hq=>ht.paren_pos e hp hq⟩
open Classical in
noncomputable def readX (L:Lex):Nat→List UInt8→Option Xp
 | 0,_=>none
 | n+1,s =>
  if s=[] then none
  else match lastN 43 s with
  | some i=>match readX L n (s.take i),readX L n (s.drop (i+1)) with
   | some x,some y=>some (.sum x y)
   | _,_=>none
  | none=>match lastN 42 s with
   | some i=>match readX L n (s.take i),readX L n (s.drop (i+1)) with
    | some x,some y=>some (.mul x y)
    | _,_=>none
   | none =>
    if wholeB s then readX L n (s.tail.dropLast)
    else if 40∈s then
     if L.name (s.takeWhile (·≠40))=true∧wholeB (s.dropWhile (·≠40)) then(readX L n (s.dropWhile (·≠40)).tail.dropLast).map (.call (s.takeWhile (·≠40)))
     else none
    else L.leaf s
theorem takeDrop {a b:List UInt8} {c:UInt8}:(a++c::b).take a.length=a∧(a++c::b).drop (a.length+1)=b:=by simp
theorem readX_sound {L:Lex}:∀ {n:Nat} {s:List UInt8} {x:Xp},readX L n s=some x→Der L 2 s x
 | 0,_,_,h=>by simp [readX] at h
 | n+1,s,x,h=>by
  unfold readX at h
  split at h
  ·cases h
  ·split at h
   ·rename_i i hi
    obtain⟨a,b,rfl,rfl,h0,ht⟩:=lastN_some (by decide) hi
    rw[takeDrop.1,takeDrop.2] at h
    split at h
    ·rename_i y z hy hz
     cases h
     have dz:=readX_sound hz
     refine .sum (readX_sound hy) ?_
     cases dz with
     | up1 k=>exact k
     | sum k _=>exact absurd k.bal.1.1 (ht _ _ rfl)
    ·cases h
   ·rename_i hn
    have hn:=lastN_none.1 hn
    split at h
    ·rename_i i hi
     obtain⟨a,b,rfl,rfl,h0,ht⟩:=lastN_some (by decide) hi
     rw[takeDrop.1,takeDrop.2] at h
     split at h
     ·rename_i y z hy hz
      cases h
      have dz:=readX_sound hz
      have dy:=readX_sound hy
      have ny:Der L 1 a y:=by
       cases dy with
       | up1 k=>exact k
       | sum k k2=>exact absurd k.bal.1.1 (hn _ _ (by rw[List.append_assoc,List.cons_append]))
      have nz:Der L 1 b z:=by
       cases dz with
       | up1 k=>exact k
       | @sum a' b' x' y' k k2=>exact absurd (show net (a++42::a')=0 by rw[net_append,net_cons,h0,k.bal.1.1];rfl) (hn (a++42::a') b' (by simp))
      refine .up1 (.mul ny ?_)
      cases nz with
      | up0 k=>exact k
      | mul k _=>exact absurd k.bal.1.1 (ht _ _ rfl)
     ·cases h
    ·split at h
     ·rename_i hw
      obtain⟨t,rfl,_⟩:=whole_iff.1 hw
      simp only [List.tail_cons,List.dropLast_concat] at h
      exact .up1 (.up0 (.paren (readX_sound h)))
     ·split at h
      ·split at h
       ·rename_i k
        obtain⟨t,e,_⟩:=whole_iff.1 k.2
        rw[e] at h
        simp only [List.tail_cons,List.dropLast_concat,Option.map_eq_some_iff] at h
        obtain⟨y,hy,rfl⟩:=h
        have:=Der.call k.1 (readX_sound hy)
        rw[← e,List.takeWhile_append_dropWhile] at this
        exact .up1 (.up0 this)
       ·cases h
      ·exact .up1 (.up0 (.leaf h))
theorem readX_done {L:Lex} {k:Nat} {s:List UInt8} {x:Xp} (h:Der L k s x):∀ {n:Nat},s.length<n→readX L n s=some x:=by
 induction h with
 | @leaf w x h =>
  intro n hn
  obtain⟨m,rfl⟩:∃ m,n=m+1:=⟨n-1,by omega⟩
  have hw:=L.leafW _ _ h
  have d0:=(Der.leaf (L:=L) h).top0
  unfold readX
  rw[if_neg hw.1,lastN_none.2 d0.2,lastN_none.2 d0.1,if_neg,if_neg]
  ·exact h
  ·intro k;exact(L.wpar 40 (hw.2 40 k)).1 rfl
  ·intro k
   obtain⟨t,e,_⟩:=whole_iff.1 k
   exact(L.wpar 40 (hw.2 40 (by rw[e];simp))).1 rfl
 | @paren s x h ih =>
  intro n hn
  obtain⟨m,rfl⟩:∃ m,n=m+1:=⟨n-1,by omega⟩
  have d0:=(Der.paren (L:=L) h).top0
  unfold readX
  rw[if_neg (by simp),lastN_none.2 d0.2,lastN_none.2 d0.1,if_pos (whole_iff.2 ⟨s,rfl,h.bal.1⟩)]
  simp only [List.tail_cons,List.dropLast_concat]
  exact ih (by simp at hn;omega)
 | @call w s x hw h ih =>
  intro n hn
  obtain⟨m,rfl⟩:∃ m,n=m+1:=⟨n-1,by omega⟩
  have d0:=(Der.call hw h).top0
  have w1:=L.nameW _ hw
  have tw:(w++40::(s++[41])).takeWhile (·≠40)=w:=by
   rw[List.takeWhile_append_of_pos (fun c hc=>by simpa using(L.wpar c (w1.2 c hc)).1)];simp
  have dw:(w++40::(s++[41])).dropWhile (·≠40)=40::(s++[41]):=by
   rw[List.dropWhile_append_of_pos (fun c hc=>by simpa using(L.wpar c (w1.2 c hc)).1)];simp
  unfold readX
  rw[if_neg (by simp),lastN_none.2 d0.2,lastN_none.2 d0.1,if_neg,if_pos (by simp),if_pos,tw,dw]
  ·simp only [List.tail_cons,List.dropLast_concat]
   rw[ih (by simp at hn;omega)];rfl
  ·rw[tw,dw];exact⟨hw,whole_iff.2 ⟨s,rfl,h.bal.1⟩⟩
  ·intro k
   obtain⟨t,e,_⟩:=whole_iff.1 k
   cases w with
   | nil=>exact w1.1 rfl
   | cons c r =>
    simp only [List.cons_append,List.cons.injEq] at e
    exact(L.wpar c (w1.2 c (by simp))).1 e.1
 | up0 h ih=>exact ih
 | @mul a b x y h k ih jh =>
  intro n hn
  obtain⟨m,rfl⟩:∃ m,n=m+1:=⟨n-1,by omega⟩
  have t1:=(Der.mul h k).top1 (by omega)
  have l2:lastN 42 (a++42::b)=some a.length:=lastN_at (by decide) h.bal.1.1 k.top0.1
  unfold readX
  rw[if_neg (by simp),lastN_none.2 t1,l2]
  simp only [List.length_append,List.length_cons] at hn
  simp only [takeDrop.1,takeDrop.2]
  rw[ih (by omega),jh (by omega)]
 | up1 h ih=>exact ih
 | @sum a b x y h k ih jh =>
  intro n hn
  obtain⟨m,rfl⟩:∃ m,n=m+1:=⟨n-1,by omega⟩
  have l2:lastN 43 (a++43::b)=some a.length:=lastN_at (by decide) h.bal.1.1 (k.top1 (by omega))
  unfold readX
  rw[if_neg (by simp),l2]
  simp only [List.length_append,List.length_cons] at hn
  simp only [takeDrop.1,takeDrop.2]
  rw[ih (by omega),jh (by omega)]
theorem Der.one {L:Lex} {j k:Nat} {s:List UInt8} {x y:Xp} (h:Der L j s x) (g:Der L k s y):x=y:=by
 have a:=readX_done h (n:=s.length+1) (by omega)
 rw[readX_done g (by omega)] at a
 exact(Option.some.inj a).symm
theorem readX_iff {L:Lex} {n:Nat} {s:List UInt8} {x:Xp} (hn:s.length<n):readX L n s=some x ↔ Der L 2 s x :=
 ⟨readX_sound,fun h=>readX_done h hn⟩
inductive Nd where
 | mk (kind:Int) (text:List UInt8) (num:Int) (args:List Nd)
def zeroN:Nd:=.mk 0 [] 0 []
def sumN (a b:Nd):Nd:=.mk 3 [] 0 [a,b]
def mulN (a b:Nd):Nd:=.mk 4 [] 0 [a,b]
def callN (w:List UInt8) (a:Nd):Nd:=.mk 5 w 0 [a]
def Xp.nd:Xp→Nd
 | .path w=>.mk 1 w 0 []
 | .num n=>.mk 2 [] n []
 | .sum a b=>sumN a.nd b.nd
 | .mul a b=>mulN a.nd b.nd
 | .call w a=>callN w a.nd
structure LexT extends Lex where
 leafT:List UInt8→Nd×Bool
 leafT_ok:∀ w x,leaf w=some x→leafT w=(x.nd,false)
 leafT_no:∀ w,leaf w=none→(leafT w).2=true
mutual
def partD (L:LexT):Nat→List UInt8→Nd×List UInt8×Bool
 | 0,s=>(zeroN,s,true)
 | n+1,s =>
  match s.dropWhile L.isW with
  | 40::r =>
   if s.takeWhile L.isW=[] then innerD L n r
   else if L.name (s.takeWhile L.isW)=true then(callN (s.takeWhile L.isW) (innerD L n r).1,(innerD L n r).2.1,(innerD L n r).2.2)
   else((L.leafT (s.takeWhile L.isW)).1,40::r,(L.leafT (s.takeWhile L.isW)).2)
  | r=>((L.leafT (s.takeWhile L.isW)).1,r,(L.leafT (s.takeWhile L.isW)).2)
termination_by n=>(n,0)
def loopP (L:LexT):Nat→Nd→List UInt8→Bool→Nd×List UInt8×Bool
 | n+1,x,42::s,false=>loopP L n (mulN x (partD L n s).1) (partD L n s).2.1 (partD L n s).2.2
 | _,x,s,b=>(x,s,b)
termination_by n=>(n,0)
def prodD (L:LexT) (n:Nat) (s:List UInt8):Nd×List UInt8×Bool:=loopP L n (partD L n s).1 (partD L n s).2.1 (partD L n s).2.2
termination_by (n,1)
def loopS (L:LexT):Nat→Nd→List UInt8→Bool→Nd×List UInt8×Bool
 | n+1,x,43::s,false=>loopS L n (sumN x (prodD L n s).1) (prodD L n s).2.1 (prodD L n s).2.2
 | _,x,s,b=>(x,s,b)
termination_by n=>(n,2)
def sumD (L:LexT) (n:Nat) (s:List UInt8):Nd×List UInt8×Bool:=loopS L n (prodD L n s).1 (prodD L n s).2.1 (prodD L n s).2.2
termination_by (n,3)
def innerD (L:LexT) (n:Nat) (s:List UInt8):Nd×List UInt8×Bool :=
 match (sumD L n s).2 with
 | (41::t,false)=>((sumD L n s).1,t,false)
 | (t,_)=>((sumD L n s).1,t,true)
termination_by (n,4)
end
theorem loopP_star {L:LexT} {n:Nat} {x:Nd} {s:List UInt8}:loopP L (n+1) x (42::s) false=loopP L n (mulN x (partD L n s).1) (partD L n s).2.1 (partD L n s).2.2:=by rw[loopP]
theorem loopS_plus {L:LexT} {n:Nat} {x:Nd} {s:List UInt8}:loopS L (n+1) x (43::s) false=loopS L n (sumN x (prodD L n s).1) (prodD L n s).2.1 (prodD L n s).2.2:=by rw[loopS]
theorem loopP_end {L:LexT} {n:Nat} {x:Nd} {s:List UInt8} {b:Bool} (h:∀ s',s=42::s'→b=true):loopP L n x s b=(x,s,b):=by
 unfold loopP
 split
 ·have:=h _ rfl;cases this
 ·rfl
theorem loopS_end {L:LexT} {n:Nat} {x:Nd} {s:List UInt8} {b:Bool} (h:∀ s',s=43::s'→b=true):loopS L n x s b=(x,s,b):=by
 unfold loopS
 split
 ·have:=h _ rfl;cases this
 ·rfl
theorem span_w {L:LexT} (s:List UInt8):s=s.takeWhile L.isW++s.dropWhile L.isW:=List.takeWhile_append_dropWhile.symm
theorem sound {L:LexT}:∀ n,
  (∀ s x t,partD L n s=(x,t,false)→∃ p e,s=p++t∧Der L.toLex 0 p e∧x=e.nd) ∧
  (∀ p0 e0 s x t b,Der L.toLex 1 p0 e0→loopP L n e0.nd s b=(x,t,false)→∃ p e,p0++s=p++t∧Der L.toLex 1 p e∧x=e.nd) ∧
  (∀ p0 e0 s x t b,Der L.toLex 2 p0 e0→loopS L n e0.nd s b=(x,t,false)→∃ p e,p0++s=p++t∧Der L.toLex 2 p e∧x=e.nd):=by
 intro n
 induction n with
 | zero =>
  refine⟨fun s x t h=>?_,fun p0 e0 s x t b d h=>?_,fun p0 e0 s x t b d h=>?_⟩
  ·simp [partD] at h
  ·simp only [loopP,Prod.mk.injEq] at h;obtain⟨rfl,rfl,_⟩:=h;exact⟨p0,e0,rfl,d,rfl⟩
  ·simp only [loopS,Prod.mk.injEq] at h;obtain⟨rfl,rfl,_⟩:=h;exact⟨p0,e0,rfl,d,rfl⟩
 | succ n ih =>
  obtain⟨i1,i2,i3⟩:=ih
  have j1:∀ s x t,prodD L n s=(x,t,false)→∃ p e,s=p++t∧Der L.toLex 1 p e∧x=e.nd:=fun s x t h=>by
   rw[prodD] at h
   have hb:(partD L n s).2.2=false:=by
    cases hb:(partD L n s).2.2 with
    | false=>rfl
    | true=>rw[hb,loopP_end (fun _ _=>rfl)] at h;cases h
   obtain⟨p,e,h1,h2,h3⟩:=i1 s (partD L n s).1 (partD L n s).2.1 (by rw[← hb])
   rw[h3] at h
   obtain⟨q,f,k1,k2,k3⟩:=i2 p e _ x t _ (.up0 h2) h
   exact⟨q,f,by rw[← k1];exact h1,k2,k3⟩
  have j2:∀ s x t,sumD L n s=(x,t,false)→∃ p e,s=p++t∧Der L.toLex 2 p e∧x=e.nd:=fun s x t h=>by
   rw[sumD] at h
   have hb:(prodD L n s).2.2=false:=by
    cases hb:(prodD L n s).2.2 with
    | false=>rfl
    | true=>rw[hb,loopS_end (fun _ _=>rfl)] at h;cases h
   obtain⟨p,e,h1,h2,h3⟩:=j1 s (prodD L n s).1 (prodD L n s).2.1 (by rw[← hb])
   rw[h3] at h
   obtain⟨q,f,k1,k2,k3⟩:=i3 p e _ x t _ (.up1 h2) h
   exact⟨q,f,by rw[← k1];exact h1,k2,k3⟩
  have j3:∀ s x t,innerD L n s=(x,t,false)→∃ p e,s=p++41::t∧Der L.toLex 2 p e∧x=e.nd:=fun s x t h=>by
   rw[innerD] at h
   split at h
   ·rename_i t' ht
    simp only [Prod.mk.injEq,and_true] at h
    obtain⟨rfl,rfl⟩:=h
    exact j2 s _ _ (by rw[← ht])
   ·simp at h
  have lf:∀ w,(L.leafT w).2=false→∃ e,L.leaf w=some e∧(L.leafT w).1=e.nd:=fun w h=>by
   cases hl:L.leaf w with
   | none=>rw[L.leafT_no w hl] at h;cases h
   | some e=>exact⟨e,rfl,by rw[L.leafT_ok w e hl]⟩
  refine⟨fun s x t h=>?_,fun p0 e0 s x t b d h=>?_,fun p0 e0 s x t b d h=>?_⟩
  ·rw[partD] at h
   have hs:=span_w (L:=L) s
   split at h
   ·rename_i r hr
    rw[hr] at hs
    split at h
    ·rename_i hw
     rw[hw,List.nil_append] at hs
     obtain⟨p,e,h1,h2,h3⟩:=j3 r x t h
     exact⟨40::(p++[41]),e,by rw[hs,h1];simp,.paren h2,h3⟩
    ·split at h
     ·rename_i hn
      simp only [Prod.mk.injEq] at h
      obtain⟨rfl,rfl,hb⟩:=h
      obtain⟨p,e,h1,h2,h3⟩:=j3 r (innerD L n r).1 (innerD L n r).2.1 (by rw[← hb])
      exact⟨s.takeWhile L.isW++40::(p++[41]),.call _ e,by rw[List.append_assoc,List.cons_append,List.append_assoc,List.singleton_append,← h1];exact hs,.call hn h2,by rw[h3];rfl⟩
     ·simp only [Prod.mk.injEq] at h
      obtain⟨rfl,rfl,hb⟩:=h
      obtain⟨e,h1,h2⟩:=lf _ hb
      exact⟨_,e,hs,.leaf h1,h2⟩
   ·simp only [Prod.mk.injEq] at h
    obtain⟨rfl,rfl,hb⟩:=h
    obtain⟨e,h1,h2⟩:=lf _ hb
    exact⟨_,e,hs,.leaf h1,h2⟩
  ·by_cases hs:(∃ s',s=42::s')∧b=false
   ·obtain⟨⟨s',rfl⟩,rfl⟩:=hs
    rw[loopP_star] at h
    have hb:(partD L n s').2.2=false:=by
     cases hb:(partD L n s').2.2 with
     | false=>rfl
     | true=>rw[hb,loopP_end (fun _ _=>rfl)] at h;cases h
    obtain⟨p,e,h1,h2,h3⟩:=i1 s' (partD L n s').1 (partD L n s').2.1 (by rw[← hb])
    rw[h3] at h
    obtain⟨q,f,k1,k2,k3⟩:=i2 (p0++42::p) (.mul e0 e) _ x t _ (.mul d h2) h
    refine⟨q,f,?_,k2,k3⟩
    rw[← k1,List.append_assoc,List.cons_append,← h1]
   ·rw[loopP_end (fun s' e=>by cases b with|true=>rfl|false=>exact absurd ⟨⟨s',e⟩,rfl⟩ hs)] at h
    simp only [Prod.mk.injEq] at h;obtain⟨rfl,rfl,_⟩:=h;exact⟨p0,e0,rfl,d,rfl⟩
  ·by_cases hs:(∃ s',s=43::s')∧b=false
   ·obtain⟨⟨s',rfl⟩,rfl⟩:=hs
    rw[loopS_plus] at h
    have hb:(prodD L n s').2.2=false:=by
     cases hb:(prodD L n s').2.2 with
     | false=>rfl
     | true=>rw[hb,loopS_end (fun _ _=>rfl)] at h;cases h
    obtain⟨p,e,h1,h2,h3⟩:=j1 s' (prodD L n s').1 (prodD L n s').2.1 (by rw[← hb])
    rw[h3] at h
    obtain⟨q,f,k1,k2,k3⟩:=i3 (p0++43::p) (.sum e0 e) _ x t _ (.sum d h2) h
    refine⟨q,f,?_,k2,k3⟩
    rw[← k1,List.append_assoc,List.cons_append,← h1]
   ·rw[loopS_end (fun s' e=>by cases b with|true=>rfl|false=>exact absurd ⟨⟨s',e⟩,rfl⟩ hs)] at h
    simp only [Prod.mk.injEq] at h;obtain⟨rfl,rfl,_⟩:=h;exact⟨p0,e0,rfl,d,rfl⟩
def afterW (L:LexT) (t:List UInt8):Prop:=∀ c r,t=c::r→L.isW c=false∧c≠40
def Done (L:LexT):Nat→List UInt8→Xp→Prop
 | 0,s,e=>∀ t n,(s++t).length<n→afterW L t→partD L n (s++t)=(e.nd,t,false)
 | 1,s,e=>∀ t n,(s++t).length<n→afterW L t→∃ m,t.length<m∧prodD L n (s++t)=loopP L m e.nd t false
 | _,s,e=>∀ t n,(s++t).length<n→afterW L t→(∀ r,t≠42::r)→∃ m,t.length<m∧sumD L n (s++t)=loopS L m e.nd t false
theorem afterW_cons {L:LexT} {c:UInt8} {t:List UInt8} (h:L.isW c=false) (k:c≠40):afterW L (c::t):=fun d r e=>by cases e;exact⟨h,k⟩
theorem notW {L:LexT} {c:UInt8} (h:c=40∨c=41∨c=42∨c=43):L.isW c=false:=by
 cases k:L.isW c with
 | false=>rfl
 | true=>have:=L.wpar c k;rcases h with h|h|h|h<;>simp [h] at this
theorem takeW {L:LexT} {w t:List UInt8} (hw:∀ c∈w,L.isW c=true) (ht:∀ c r,t=c::r→L.isW c=false):(w++t).takeWhile L.isW=w∧(w++t).dropWhile L.isW=t:=by
 rw[List.takeWhile_append_of_pos hw,List.dropWhile_append_of_pos hw]
 cases t with
 | nil=>simp
 | cons c r=>simp [ht c r rfl]
theorem inner_of {L:LexT} {s t:List UInt8} {e:Xp} (h:Done L 2 s e) {n:Nat} (hn:(s++41::t).length<n):innerD L n (s++41::t)=(e.nd,t,false):=by
 obtain⟨m,_,hm⟩:=h (41::t) n hn (afterW_cons (notW (by simp)) (by decide)) (fun r k=>by simp at k)
 rw[loopS_end (fun s' k=>by simp at k)] at hm
 rw[innerD,hm];rfl
theorem done {L:LexT} {k:Nat} {s:List UInt8} {e:Xp} (h:Der L.toLex k s e):Done L k s e:=by
 induction h with
 | @leaf w x h =>
  intro t n hn ht
  obtain⟨m,rfl⟩:∃ m,n=m+1:=⟨n-1,by omega⟩
  have hw:=L.leafW _ _ h
  obtain⟨h1,h2⟩:=takeW (L:=L) hw.2 fun c r e=>(ht c r e).1
  rw[partD,h1,h2]
  split
  ·exact absurd rfl (ht _ _ rfl).2
  ·rw[L.leafT_ok _ _ h]
 | @paren s x h ih =>
  intro t n hn ht
  obtain⟨m,rfl⟩:∃ m,n=m+1:=⟨n-1,by omega⟩
  have e:40::(s++[41])++t=[]++40::(s++41::t):=by simp
  obtain⟨h1,h2⟩:=takeW (L:=L) (w:=[]) (t:=40::(s++41::t)) (by simp) fun c r e=>by cases e;exact notW (by simp)
  rw[e,partD,h1,h2]
  simp only [if_true]
  rw[inner_of ih (by simp at hn ⊢;omega)]
 | @call w s x hw h ih =>
  intro t n hn ht
  obtain⟨m,rfl⟩:∃ m,n=m+1:=⟨n-1,by omega⟩
  have hw2:=L.nameW _ hw
  have e:w++40::(s++[41])++t=w++40::(s++41::t):=by simp
  obtain⟨h1,h2⟩:=takeW (L:=L) (w:=w) (t:=40::(s++41::t)) hw2.2 fun c r e=>by cases e;exact notW (by simp)
  rw[e,partD,h1,h2]
  simp only [if_neg hw2.1,if_pos hw]
  rw[inner_of ih (by simp at hn ⊢;omega)];rfl
 | up0 h ih =>
  intro t n hn ht
  exact⟨n,by simp at hn;omega,by rw[prodD,ih t n hn ht]⟩
 | @mul a b x y h k ih jh =>
  intro t n hn ht
  have e:a++42::b++t=a++42::(b++t):=by simp
  rw[e] at hn ⊢
  obtain⟨m,hm,hp⟩:=ih (42::(b++t)) n hn (afterW_cons (notW (by simp)) (by decide))
  obtain⟨m,rfl⟩:∃ m',m=m'+1:=⟨m-1,by omega⟩
  have hb:(b++t).length<m:=by simp only [List.length_cons] at hm;omega
  rw[hp,loopP_star,jh t m hb ht]
  exact⟨m,by simp at hb;omega,rfl⟩
 | @up1 s x h ih =>
  intro t n hn ht h42
  obtain⟨m,hm,hp⟩:=ih t n hn ht
  rw[loopP_end (fun s' k=>absurd k (h42 s'))] at hp
  exact⟨n,by simp at hn;omega,by rw[sumD,hp]⟩
 | @sum a b x y h k ih jh =>
  intro t n hn ht h42
  have e:a++43::b++t=a++43::(b++t):=by simp
  rw[e] at hn ⊢
  obtain⟨m,hm,hp⟩:=ih (43::(b++t)) n hn (afterW_cons (notW (by simp)) (by decide)) (fun r k=>by simp at k)
  obtain⟨m,rfl⟩:∃ m',m=m'+1:=⟨m-1,by omega⟩
  have hb:(b++t).length<m:=by simp only [List.length_cons] at hm;omega
  obtain⟨j,hj,hq⟩:=jh t m hb ht
  rw[loopP_end (fun s' k=>absurd k (h42 s'))] at hq
  rw[hp,loopS_plus,hq]
  exact⟨m,by simp at hb;omega,rfl⟩
theorem parse_some {L:LexT} {s:List UInt8} {e:Xp} {n:Nat} (hn:s.length<n) (h:Der L.toLex 2 s e):sumD L n s=(e.nd,[],false):=by
 obtain⟨m,_,hm⟩:=done h [] n (by simpa using hn) (fun c r k=>by simp at k) (fun r k=>by simp at k)
 rw[List.append_nil,loopS_end (fun s' k=>by simp at k)] at hm
 exact hm
theorem parse_sound {L:LexT} {s:List UInt8} {x:Nd} {n:Nat} (h:sumD L n s=(x,[],false)):∃ e,Der L.toLex 2 s e∧x=e.nd:=by
 obtain⟨i1,i2,i3⟩:=sound (L:=L) n
 rw[sumD] at h
 have hb:(prodD L n s).2.2=false:=by
  cases hb:(prodD L n s).2.2 with
  | false=>rfl
  | true=>rw[hb,loopS_end (fun _ _=>rfl)] at h;simp at h
 have hc:(partD L n s).2.2=false:=by
  cases hc:(partD L n s).2.2 with
  | false=>rfl
  | true=>rw[prodD,hc,loopP_end (fun _ _=>rfl)] at hb;simp at hb
 obtain⟨p,e,h1,h2,h3⟩:=i1 s (partD L n s).1 (partD L n s).2.1 (by rw[← hc])
 have hp:prodD L n s=loopP L n e.nd (partD L n s).2.1 (partD L n s).2.2:=by rw[prodD,h3]
 obtain⟨q,f,k1,k2,k3⟩:=i2 p e _ (prodD L n s).1 (prodD L n s).2.1 _ (.up0 h2) (by rw[← hp,← hb])
 rw[k3] at h
 obtain⟨q',f',l1,l2,l3⟩:=i3 q f _ x [] _ (.up1 k2) h
 rw[List.append_nil] at l1
 exact⟨f',by rw[h1,k1,l1];exact l2,l3⟩
end Go.Sym
