/- What folds and writes come to. -/
import Derived.Test.YthaaoongjcmleaaGreatDoorJ11
import Derived.Test.YthaaoongjcmleaaGreatDoorJ10
set_option linter.all false
set_option linter.unusedVariables false
set_option linter.unusedSimpArgs false
namespace Go.Sym
open Go
noncomputable def writeP (l:List Ndoc) (o:Opn):Change:=⟨0,o.key,decide (o.kind≠2),if o.kind=2∧isKey o.key=true∧getK Ndoc.key l o.key=true then[] else o.doc⟩
theorem foldD_set {l:List Ndoc} {c:Change} (h:c.has=true) (g:getK Ndoc.key l c.key=true):foldD l c=l.set (posK Ndoc.key l c.key) ⟨c.key,c.doc⟩:=by rw[foldD,if_pos h,if_pos g]
theorem foldD_ins {l:List Ndoc} {c:Change} (h:c.has=true) (g:getK Ndoc.key l c.key=false):foldD l c=insK l (posK Ndoc.key l c.key) ⟨c.key,c.doc⟩:=by rw[foldD,if_pos h,if_neg (by simp [g])]
theorem foldD_del {l:List Ndoc} {c:Change} (h:c.has=false) (g:getK Ndoc.key l c.key=true):foldD l c=l.eraseIdx (posK Ndoc.key l c.key):=by rw[foldD,if_neg (by simp [h]),if_pos g]
theorem foldD_no {l:List Ndoc} {c:Change} (h:c.has=false) (g:getK Ndoc.key l c.key=false):foldD l c=l:=by rw[foldD,if_neg (by simp [h]),if_neg (by simp [g])]
theorem foldD_pos {l:List Ndoc} {c:Change} (p:Int):foldD l { c with pos:=p }=foldD l c:=rfl
theorem set_sorted {l:List Ndoc} {i:Nat} {x y:Ndoc} (hs:sortedK Ndoc.key l) (hx:l[i]?=some x) (e:y.key=x.key):sortedK Ndoc.key (l.set i y):=by
 have hm:(l.set i y).map Ndoc.key=l.map Ndoc.key:=by
  apply List.ext_getElem?
  intro j
  rw[List.getElem?_map,List.getElem?_map,List.getElem?_set]
  split
  ·rename_i h;subst h
   split
   ·rw[hx];simp [e]
   ·rename_i h;rw[List.getElem?_eq_none (by omega)] at hx;cases hx
  ·rfl
 have h2:∀ m:List Ndoc,sortedK Ndoc.key m ↔ (m.map Ndoc.key).Pairwise slt:=fun m=>by rw[List.pairwise_map];rfl
 rw[h2,hm,← h2];exact hs
theorem foldD_sorted {l:List Ndoc} {c:Change} (hs:sortedK Ndoc.key l):sortedK Ndoc.key (foldD l c):=by
 cases h:c.has<;>cases g:getK Ndoc.key l c.key
 ·rw[foldD_no h g];exact hs
 ·rw[foldD_del h g];exact eraseIdx_sorted hs _
 ·rw[foldD_ins h g];exact insK_sorted (x:=⟨c.key,c.doc⟩) hs g
 ·obtain⟨x,hx,hp⟩:=posK_there hs g
  rw[foldD_set h g];exact set_sorted hs hx hp.symm
theorem foldD_mem {l:List Ndoc} {c:Change} {n:Ndoc} (h:n∈foldD l c):n∈l∨c.has=true∧n=⟨c.key,c.doc⟩:=by
 cases hh:c.has<;>cases g:getK Ndoc.key l c.key
 ·rw[foldD_no hh g] at h;exact .inl h
 ·rw[foldD_del hh g] at h;exact .inl (List.mem_of_mem_eraseIdx h)
 ·rw[foldD_ins hh g,insK] at h
  rcases List.mem_append.1 h with h|h
  ·exact .inl (List.mem_of_mem_take h)
  ·rcases List.mem_cons.1 h with h|h
   ·exact .inr ⟨rfl,h⟩
   ·exact .inl (List.mem_of_mem_drop h)
 ·rw[foldD_set hh g] at h
  rcases List.mem_or_eq_of_mem_set h with h|h
  ·exact .inl h
  ·exact .inr ⟨rfl,h⟩
theorem foldD_len {l:List Ndoc} {c:Change}:(foldD l c).length≤l.length+1:=by
 cases hh:c.has<;>cases g:getK Ndoc.key l c.key
 ·rw[foldD_no hh g];omega
 ·rw[foldD_del hh g,List.length_eraseIdx];split<;>omega
 ·rw[foldD_ins hh g,insK];simp;omega
 ·rw[foldD_set hh g];simp
theorem writeA_ok {l:List Ndoc} {o:Opn} (h:(writeA l o).code=0):isKey o.key=true∧writeP l o=writeC o∧(o.kind≠2→may o.doc=true)∧(o.kind=2→getK Ndoc.key l o.key=true)∧(getK Ndoc.key l o.key=false→l.length≠24):=by
 rw[writeA] at h
 split at h
 ·cases h
 ·rename_i hk
  have hk:isKey o.key=true:=by simpa using hk
  split at h
  ·rename_i h2
   split at h
   ·rename_i g
    refine⟨hk,?_,fun e=>absurd h2 e,fun _=>g,fun e=>by rw[g] at e;cases e⟩
    rw[writeP,writeC,if_pos ⟨h2,hk,g⟩,if_pos h2];simp [h2]
   ·cases h
  ·rename_i h2
   have hP:writeP l o=writeC o:=by rw[writeP,writeC,if_neg (fun k=>h2 k.1),if_neg h2];simp [h2]
   split at h
   ·cases h
   ·rename_i h3
    have hm:may o.doc=true:=by
     cases hm:may o.doc with
     | true=>rfl
     | false=>exact absurd (.inl hm) h3
    split at h
    ·cases h
    ·split at h
     ·cases h
     ·split at h
      ·cases h
      ·rename_i h6
       exact⟨hk,hP,fun _=>hm,fun e=>absurd e h2,fun g e=>h6 ⟨g,e⟩⟩
theorem fold_write_ok {l:List Ndoc} {o:Opn} (hl:docsOk l=true) (h:(writeA l o).code=0):docsOk (foldD l (writeC o))=true∧(foldD l (writeC o)).length≤l.length+1:=by
 obtain⟨h1,_,h3,_⟩:=writeA_ok h
 obtain⟨k1,k2⟩:=docsOk_iff.1 hl
 refine⟨docsOk_iff.2 ⟨fun n hn=>?_,foldD_sorted k2⟩,foldD_len⟩
 rcases foldD_mem hn with hn | ⟨hh,rfl⟩
 ·exact k1 n hn
 ·unfold writeC at hh ⊢
  split at hh
  ·cases hh
  ·rename_i h2
   rw[if_neg h2];exact⟨h1,h3 h2⟩
theorem docsOk_bd {l:List Ndoc} (h:docsOk l=true):∀ n∈l,n.doc.length≤16:=fun n hn=>may_len ((docsOk_iff.1 h).1 n hn).2
theorem runB_docs {first:List Ndoc} {total:Int} {m:Nat}:∀ (ops:List Opn) (now:List Ndoc) (out:List Change),(∀ o∈ops,o.doc.length≤m)→(∀ c∈out,c.doc.length≤m)→∀ c∈(runB first total ops now out).2.2,c.doc.length≤m
 | [],now,out,_,h=>by rw[runB];exact h
 | o::l,now,out,ho,h=>by
  rw[runB]
  split
  ·simp
  ·refine runB_docs l _ _ (fun x hx=>ho x (List.mem_cons_of_mem _ hx)) fun c hc=>?_
   rcases List.mem_append.1 hc with hc|hc
   ·exact h c hc
   ·rw[List.mem_singleton.1 hc]
    show(writeC o).doc.length≤m
    unfold writeC;split
    ·simp
    ·exact ho o (by simp)
theorem batchR_docs {l:List Ndoc} {ops:List Opn} {total:Int} {m:Nat} (h:∀ o∈ops,o.doc.length≤m):∀ c∈(batchR l ops total).2.2,c.doc.length≤m:=by
 rw[batchR];split
 ·simp
 ·exact runB_docs ops l [] h (by simp)
theorem runB_len {first:List Ndoc} {total:Int}:∀ (ops:List Opn) (now:List Ndoc) (out:List Change),(runB first total ops now out).2.2.length≤out.length+ops.length
 | [],now,out=>by rw[runB];simp
 | o::l,now,out=>by
  rw[runB];split
  ·simp
  ·have:=runB_len (first:=first) (total:=total) l (foldD now { writeC o with pos:=total+out.length+1 }) (out++[{ writeC o with pos:=total+out.length+1 }])
   simp only [List.length_append,List.length_cons,List.length_nil] at this ⊢
   omega
theorem batchR_len {l:List Ndoc} {ops:List Opn} {total:Int}:(batchR l ops total).2.2.length≤ops.length:=by
 rw[batchR];split
 ·simp
 ·have:=runB_len (first:=l) (total:=total) ops l []
  simpa using this
def tx:ByteArray:=⟨#[120]⟩
def ty:ByteArray:=⟨#[121]⟩
theorem may_zeroF:mayF zeroF=true:=mayF_of ⟨by simp [zeroF],by simp [zeroF],by simp [zeroF],by simp [zeroF],by simp [zeroF]⟩ (allC_zero _) (by simp [zeroF]) List.Pairwise.nil
theorem may_nil:may []=true:=may_true (by simp) (by simp)
theorem key_tx:isKey tx=true:=by decide
theorem getK_no:getK Ndoc.key ([]:List Ndoc) tx=false:=by simp [getK]
theorem mayD_no:mayD []=true:=mayD_iff.2 ⟨by simp,by simp,List.Pairwise.nil⟩
noncomputable def foldAll (l:List Ndoc) (cs:List Change):List Ndoc:=cs.foldl foldD l
def posFrom (t:Int) (cs:List Change):Prop:=∀ (i:Nat) c,cs[i]?=some c→c.pos=t+i+1
theorem foldAll_cons {l:List Ndoc} {c:Change} {cs:List Change}:foldAll l (c::cs)=foldAll (foldD l c) cs:=rfl
theorem posFrom_nil (t:Int):posFrom t []:=by intro i c h;simp at h
theorem posFrom_cons {t:Int} {c:Change} {cs:List Change} (h:c.pos=t+1) (k:posFrom (t+1) cs):posFrom t (c::cs):=by
 intro i d hd
 cases i with
 | zero=>simp at hd;subst hd;simpa using h
 | succ i=>have:=k i d (by simpa using hd);omega
theorem foldD_len_get {l:List Ndoc} {c:Change} (hs:sortedK Ndoc.key l) (h:c.has=true∧getK Ndoc.key l c.key=false→l.length≠24) (hl:l.length≤24):(foldD l c).length≤24:=by
 cases hh:c.has<;>cases g:getK Ndoc.key l c.key
 ·rw[foldD_no hh g];exact hl
 ·rw[foldD_del hh g,List.length_eraseIdx];split<;>omega
 ·rw[foldD_ins hh g,insK];simp;have:=h ⟨hh,g⟩;omega
 ·rw[foldD_set hh g];simpa using hl
theorem write_may {l:List Ndoc} {o:Opn} (hm:mayD l=true) (h:(writeA l o).code=0):mayD (foldD l (writeC o))=true:=by
 rw[mayD,Bool.and_eq_true,decide_eq_true_eq] at hm ⊢
 have h1:=fold_write_ok hm.2 h
 obtain⟨k1,k2,k3,k4,k5⟩:=writeA_ok h
 refine⟨foldD_len_get (docsOk_iff.1 hm.2).2 (fun hc=>?_) hm.1,h1.1⟩
 have hk:(writeC o).key=o.key:=by unfold writeC;split<;>rfl
 rw[hk] at hc
 exact k5 hc.2
def writeCs (t:Int):List Opn→List Change
 | []=>[]
 | o::l=>{ writeC o with pos:=t+1 }::writeCs (t+1) l
theorem writeCs_len:∀ (l:List Opn) (t:Int),(writeCs t l).length=l.length
 | [],_=>rfl
 | _::l,t=>by rw[writeCs,List.length_cons,List.length_cons,writeCs_len l]
theorem writeCs_pos:∀ (l:List Opn) (t:Int),posFrom t (writeCs t l)
 | [],t=>posFrom_nil t
 | _::l,t=>posFrom_cons rfl (writeCs_pos l _)
def answerN (n:Int):Answer:=⟨0,false,[],[],[],n,0,[]⟩
theorem runB_spec {first:List Ndoc} {total:Int}:∀ (ops:List Opn) (now:List Ndoc) (out:List Change),mayD now=true →
  (∃ (now':List Ndoc) (o:Opn),mayD now'=true∧o∈ops∧(writeA now' o).code≠0∧runB first total ops now out=(first,writeA now' o,[])) ∨
  (runB first total ops now out=(foldAll now (writeCs (total+out.length) ops),answerN (total+out.length+ops.length),out++writeCs (total+out.length) ops)∧mayD (foldAll now (writeCs (total+out.length) ops))=true)
 | [],now,out,h=>.inr ⟨by simp [runB,writeCs,foldAll,answerN],h⟩
 | o::l,now,out,h=>by
  rw[runB]
  by_cases hc:(writeA now o).code≠0
  ·rw[if_pos hc];exact .inl ⟨now,o,h,by simp,hc,rfl⟩
  ·rw[if_neg hc]
   have hw:=write_may h (by simpa using hc)
   have hf:mayD (foldD now { writeC o with pos:=total+out.length+1 })=true:=by rw[foldD_pos];exact hw
   have e1:total+((out++[{ writeC o with pos:=total+out.length+1 }]).length:Int)=total+out.length+1:=by simp;omega
   rcases runB_spec l _ (out++[{ writeC o with pos:=total+out.length+1 }]) hf with ⟨now',x,h1,h2,h3,h4⟩ | ⟨h1,h2⟩
   ·exact .inl ⟨now',x,h1,List.mem_cons_of_mem _ h2,h3,h4⟩
   ·rw[e1] at h1 h2
    refine .inr ⟨?_,?_⟩
    ·rw[h1,writeCs,foldAll_cons,List.append_assoc]
     simp only [List.length_cons,List.singleton_append,Prod.mk.injEq,true_and,and_true]
     simp only [answerN]
     congr 1
     omega
    ·rw[writeCs,foldAll_cons];exact h2
theorem docAt_len {l:List Ndoc} (hm:mayD l=true) (p:ByteArray):(docAt l p).length≤16:=by
 rw[docAt]
 split
 ·rename_i n hn
  exact may_len ((mayD_iff.1 hm).2.1 n (List.mem_of_getElem? hn)).2
 ·simp
structure SmallA (l:List Ndoc) (a:Answer):Prop where
 doc:a.doc.length≤16
 docs:a.docs.length≤l.length∧∀ n∈a.docs,n∈l
 news:a.news=[]
 keys:a.keys=[]
theorem small_ref (l:List Ndoc) (e:Int):SmallA l (refA e):=⟨by simp [refA],by simp [refA],rfl,rfl⟩
theorem small_ans (l:List Ndoc) (e:Int):SmallA l (answerN e):=⟨by simp [answerN],by simp [answerN],rfl,rfl⟩
theorem small_ans0 (l:List Ndoc):SmallA l ans0:=⟨by simp [ans0],by simp [ans0],rfl,rfl⟩
theorem small_stand {l m:List Ndoc} (hm:mayD m=true) (p:ByteArray):SmallA l (standA m p):=by
 rw[standA];split
 ·exact⟨docAt_len hm p,by simp,rfl,rfl⟩
 ·exact small_ans0 l
theorem small_write {l m:List Ndoc} (hm:mayD m=true) (o:Opn):SmallA l (writeA m o):=by
 rw[writeA]
 split
 ·exact small_ref _ _
 ·split
  ·split
   ·exact small_ans0 _
   ·exact small_ref _ _
  ·split
   ·exact small_ref _ _
   ·split
    ·have:=small_stand (l:=l) hm o.key
     exact⟨this.doc,this.docs,this.news,this.keys⟩
    ·split
     ·exact small_ref _ _
     ·split
      ·exact small_ref _ _
      ·exact small_ans0 _
theorem small_scan (l:List Ndoc) (o:Opn):SmallA l (scanA l o):=by
 rw[scanA];split
 ·exact small_ref _ _
 ·refine⟨by simp,⟨?_,fun n hn=>?_⟩,rfl,rfl⟩
  ·have h1:=List.length_filter_le (inScan o) l
   simp only [List.length_take];omega
  ·exact(List.mem_filter.1 (List.mem_of_mem_take hn)).1
noncomputable def writesOf (o:Opn):List Opn:=if writesB o=true then[o] else if o.kind=6∧¬ (o.list.length<1∨4<o.list.length∨o.list.any notWrites=true) then o.list else[]
theorem applyR_spec {l:List Ndoc} (o:Opn) (total:Int) (hm:mayD l=true) :
  (∃ a,applyR l o total=(l,a,[])∧SmallA l a∧(a.code=0→o.kind=4∨o.kind=5)) ∨
  (applyR l o total=(foldAll l (writeCs total (writesOf o)),answerN (total+(writesOf o).length),writeCs total (writesOf o))∧mayD (foldAll l (writeCs total (writesOf o)))=true∧(writesB o=true∨o.kind=6)∧writesOf o≠[]):=by
 rw[applyR]
 by_cases hw:writesB o=true
 ·rw[if_pos hw]
  have e:writesOf o=[o]:=by rw[writesOf,if_pos hw]
  have hb:batchR l [o] total=runB l total [o] l []:=by rw[batchR,if_neg (by simp [notWrites,hw])]
  rw[hb,e]
  rcases runB_spec (first:=l) (total:=total) [o] l [] hm with ⟨now',x,h1,h2,h3,h4⟩ | ⟨h1,h2⟩
  ·exact .inl ⟨_,h4,small_write h1 x,fun k=>absurd k h3⟩
  ·simp only [List.length_nil,Int.natCast_zero,Int.add_zero,List.nil_append] at h1 h2
   exact .inr ⟨h1,h2,.inl hw,by simp⟩
 ·rw[if_neg hw]
  by_cases h6:o.kind=6
  ·rw[if_pos h6]
   by_cases hg:o.list.length<1∨4<o.list.length∨o.list.any notWrites=true
   ·rw[batchR,if_pos hg]
    exact .inl ⟨_,rfl,small_ref _ _,fun k=>by cases k⟩
   ·have e:writesOf o=o.list:=by rw[writesOf,if_neg hw,if_pos ⟨h6,hg⟩]
    rw[batchR,if_neg hg,e]
    rcases runB_spec (first:=l) (total:=total) o.list l [] hm with ⟨now',x,h1,h2,h3,h4⟩ | ⟨h1,h2⟩
    ·exact .inl ⟨_,h4,small_write h1 x,fun k=>absurd k h3⟩
    ·simp only [List.length_nil,Int.natCast_zero,Int.add_zero,List.nil_append] at h1 h2
     exact .inr ⟨h1,h2,.inr h6,fun k=>hg (.inl (by rw[k];simp))⟩
  ·rw[if_neg h6]
   by_cases h5:o.kind=5
   ·rw[if_pos h5];exact .inl ⟨_,rfl,small_scan _ _,fun _=>.inr h5⟩
   ·rw[if_neg h5]
    by_cases h4:o.kind=4∧isKey o.key=true
    ·rw[if_pos h4];exact .inl ⟨_,rfl,small_stand hm _,fun _=>.inl h4.1⟩
    ·rw[if_neg h4];exact .inl ⟨_,rfl,small_ref _ _,fun k=>by cases k⟩
theorem writesOf_len (o:Opn):(writesOf o).length≤4:=by
 unfold writesOf
 split
 ·simp
 ·split
  ·rename_i h;have:=h.2;omega
  ·simp
theorem Sub.enc_inj {s t:Sub}:s.enc=t.enc ↔ s=t:=by cases s;cases t;simp [Sub.enc]
theorem sameC_iff {l m:List Change}:sameC l m=true ↔ l=m:=by simp [sameC]
theorem sameC_len {l m:List Change} (h:l.length≠m.length):sameC l m=false:=by
 simp only [sameC,decide_eq_false_iff_not];rintro rfl;exact h rfl
theorem sameC_at {l m:List Change} {k:Nat} (h:l[k]?≠m[k]?):sameC l m=false:=by
 simp only [sameC,decide_eq_false_iff_not];rintro rfl;exact h rfl
theorem sameC_all {l m:List Change} (hl:l.length=m.length) (h:∀ j,j<l.length→l[j]?=m[j]?):sameC l m=true:=by
 simp only [sameC,decide_eq_true_eq]
 refine List.ext_getElem? fun j=>?_
 by_cases hj:j<l.length
 ·exact h j hj
 ·rw[List.getElem?_eq_none (by omega),List.getElem?_eq_none (by omega)]
theorem sameF_iff {f g:Feed}:sameF f g=true ↔ f=g:=by simp [sameF]
theorem sameF_no {f g:Feed} (h:f≠g):sameF f g=false:=by simp [sameF,h]
theorem sameF_ok {f g : Feed} (h1 : f.base = g.base) (h2 : f.total = g.total) (h3 : f.changes = g.changes) (hl : f.subs.length = g.subs.length) (h : ∀ j, j < f.subs.length → f.subs[j]? = g.subs[j]?) : sameF f g = true := by
  have h4 : f.subs = g.subs := List.ext_getElem? fun j => by
    by_cases hj : j < f.subs.length
    · exact h j hj
    · rw [List.getElem?_eq_none (by omega), List.getElem?_eq_none (by omega)]
  rw [sameF_iff]; cases f; cases g; simp_all
/-! opened -/
theorem openF_may {f:Feed} {n:ByteArray} {a:Int} (h:mayF f=true) (h2:isKey n=true∧0≤a∧a≤f.total) (h3:getK Sub.name f.subs n=false) (h4:f.subs.length≠8) (h5:¬ a<f.base):mayF (openF f n a)=true:=by
 obtain⟨⟨q1,q2,q3,q4,q5⟩,c,_⟩:=mayF_iff.1 h
 refine mayF_of ⟨q1,q2,q3,q4,?_⟩ c (fun s hs=>?_) ?_
 ·have:=posK_le (κ:=Sub.name) f.subs n
  simp [openF,insKZ,insK,posKZ_nat];omega
 ·simp only [openF,insKZ,insK,List.mem_append,List.mem_cons] at hs
  rcases hs with hs|rfl|hs
  ·exact mayF_sub h s (List.mem_of_mem_take hs)
  ·exact⟨h2.1,by show f.base≤a;omega,h2.2.2⟩
  ·exact mayF_sub h s (List.mem_of_mem_drop hs)
 ·have:=insK_sorted (κ:=Sub.name) (d:=f.subs) (x:=⟨n,a⟩) (mayF_subs h) h3
  rw[openF,insKZ,posKZ_nat];exact this
theorem openE_may {f:Feed} {n:ByteArray} {a:Int} (h:openE f n a=0):mayF f=true∧(isKey n=true∧0≤a∧a≤f.total)∧getK Sub.name f.subs n=false∧f.subs.length≠8∧¬ a<f.base:=by
 unfold openE at h
 split at h
 ·rename_i h1
  split at h
  ·rename_i h2
   split at h
   ·cases h
   ·rename_i h3
    split at h
    ·cases h
    ·rename_i h4
     split at h
     ·cases h
     ·rename_i h5
      exact⟨h1,h2,by simpa using h3,h4,h5⟩
  ·cases h
 ·cases h
theorem openR_may {f:Feed} (n:ByteArray) (a:Int) (h:mayF f=true):mayF (openR f n a)=true:=by
 rw[openR,if_pos h]
 split
 ·rename_i h1
  obtain⟨_,h2,h3,h4,h5⟩:=openE_may h1
  exact openF_may h h2 h3 h4 h5
 ·exact h
theorem closeR_may {f:Feed} (n:ByteArray) (h:mayF f=true):mayF (closeR f n)=true:=by
 rw[closeR,if_pos h]
 split
 ·obtain⟨⟨q1,q2,q3,q4,q5⟩,c,_⟩:=mayF_iff.1 h
  refine mayF_of ⟨q1,q2,q3,q4,?_⟩ c (fun s hs=>mayF_sub h s ((List.eraseIdx_sublist ..).subset hs)) (eraseIdx_sorted (mayF_subs h) _)
  exact Nat.le_trans ((List.eraseIdx_sublist ..).length_le) q5
 ·exact h
theorem ackE_may {f:Feed} {n:ByteArray} {a:Int} (h:mayF f=true) (h2:ackE f n a=0):getK Sub.name f.subs n=true∧¬ f.total<a∧¬ a<subPos f n:=by
 rw[ackE,if_pos h] at h2
 split at h2
 ·rename_i h3
  split at h2
  ·cases h2
  ·rename_i h4
   split at h2
   ·cases h2
   ·rename_i h5;exact⟨h3,h4,h5⟩
 ·cases h2
theorem ackR_may {f:Feed} (n:ByteArray) (a:Int) (h:mayF f=true):mayF (ackR f n a)=true:=by
 rw[ackR,if_pos h]
 split
 ·rename_i h1
  obtain⟨h3,h4,h5⟩:=ackE_may h h1
  obtain⟨s,hs1,hs2⟩:=posK_there (mayF_subs h) h3
  have hm:=mayF_sub h s (List.mem_of_getElem? hs1)
  rw[subPos_at hs1] at h5
  obtain⟨⟨q1,q2,q3,q4,q5⟩,c,_⟩:=mayF_iff.1 h
  have hso:=mayF_subs h
  have hpl:=(List.getElem?_eq_some_iff.1 hs1).1
  have he:f.subs[posK Sub.name f.subs n]=s:=(List.getElem?_eq_some_iff.1 hs1).2
  refine mayF_of ⟨q1,q2,q3,q4,by simpa [ackF] using q5⟩ c (fun t ht=>?_) ?_
  ·rcases List.mem_or_eq_of_mem_set ht with ht|rfl
   ·exact mayF_sub h t ht
   ·exact⟨by rw[← hs2];exact hm.1,by show f.base≤a;omega,by show a≤f.total;omega⟩
  ·have hmap:(ackF f n a).subs.map Sub.name=f.subs.map Sub.name:=by
    rw[ackF,posKZ_nat,List.map_set]
    have:(f.subs.map Sub.name)[posK Sub.name f.subs n]'(by simpa using hpl)=n:=by simp [he,hs2]
    conv=>lhs;rw[show(⟨n,a⟩:Sub).name=(f.subs.map Sub.name)[posK Sub.name f.subs n]'(by simpa using hpl) from this.symm]
    exact List.set_getElem_self _
   have h1:(f.subs.map Sub.name).Pairwise slt:=List.pairwise_map.2 hso
   rw[← hmap] at h1
   exact List.pairwise_map.1 h1
 ·exact h
theorem lowS_mem {l:List Sub}:∀ {p:Int} {s:Sub},s∈l→lowS p l≤s.pos:=by
 induction l with
 | nil=>intro p s h;cases h
 | cons t l ih =>
  intro p s h
  rcases List.mem_cons.1 h with rfl|h
  ·have:lowS (min p s.pos) l≤min p s.pos:=by
    clear ih h
    generalize min p s.pos=q
    induction l generalizing q with
    | nil=>exact Int.le_refl _
    | cons u l ih=>exact Int.le_trans (ih (min q u.pos)) (Int.min_le_left _ _)
   exact Int.le_trans this (Int.min_le_right _ _)
  ·exact ih h
theorem lowS_le' (l:List Sub):∀ p,lowS p l≤p:=by
 induction l with
 | nil=>intro p;exact Int.le_refl _
 | cons s l ih=>intro p;exact Int.le_trans (ih (min p s.pos)) (Int.min_le_left _ _)
theorem cutF_may {f:Feed} {p:Int} (h:mayF f=true) (h1:p≤f.total) (h2:∀ s∈f.subs,p≤s.pos):mayF (cutF f p)=true:=by
 rw[cutF]
 split
 ·rename_i hb
  obtain⟨⟨q1,q2,q3,q4,q5⟩,c,_⟩:=mayF_iff.1 h
  refine mayF_of ⟨by show 0≤p;omega,h1,q3,?_,q5⟩ ?_ (fun s hs=>⟨(mayF_sub h s hs).1,h2 s hs,(mayF_sub h s hs).2.2⟩) (show sortedK Sub.name f.subs from mayF_subs h)
  ·show f.total-p=((f.changes.drop (p-f.base).toNat).length:Int)
   rw[List.length_drop];omega
  ·intro i x hi hx
   have hx:(f.changes.drop (p-f.base).toNat)[i]?=some x:=hx
   rw[List.getElem?_drop] at hx
   obtain⟨a1,a2,a3,a4⟩:=c ((p-f.base).toNat+i) x (List.getElem?_eq_some_iff.1 hx).1 hx
   exact⟨by show x.pos=p+i+1;omega,a2,a3,a4⟩
 ·exact h
theorem trimR_may {f:Feed} (p:Int) (h:mayF f=true):mayF (trimR f p)=true:=by
 rw[trimR,if_pos h]
 exact cutF_may h (Int.le_trans (lowS_le' _ _) (Int.min_le_right _ _)) fun s hs=>lowS_mem hs
theorem openR_in {f:Feed} {n:ByteArray} {a:Int}:(openR f n a).changes=f.changes∨(openR f n a).changes=[]:=by
 rw[openR];split
 ·split
  ·exact .inl rfl
  ·exact .inl rfl
 ·exact .inr rfl
theorem ackR_in {f:Feed} {n:ByteArray} {a:Int}:(ackR f n a).changes=f.changes∨(ackR f n a).changes=[]:=by
 rw[ackR];split
 ·split
  ·exact .inl rfl
  ·exact .inl rfl
 ·exact .inr rfl
theorem closeR_in {f:Feed} {n:ByteArray}:(closeR f n).changes=f.changes∨(closeR f n).changes=[]:=by
 rw[closeR];split
 ·split
  ·exact .inl rfl
  ·exact .inl rfl
 ·exact .inr rfl
theorem trimR_len {f:Feed} {p:Int}:(trimR f p).changes.length≤f.changes.length:=by
 rw[trimR];split
 ·rw[cutF];split
  ·show(f.changes.drop _).length≤_;rw[List.length_drop];omega
  ·exact Nat.le_refl _
 ·exact Nat.zero_le _
end Go.Sym
