/- What comes of a request is not great; the laws' own small question. -/
import Derived.Test.YtfkigahipkndgaaGreatDoorK23
set_option linter.all false
set_option linter.unusedVariables false
set_option linter.unusedSimpArgs false
namespace Go.Sym
open Go
theorem few_turn {d:Depot} (o:Opn) (hd:mayD d.docs=true):FewA (turnR d o).2:=by
 unfold turnR
 split
 ·exact few_ref _
 ·split
  ·exact few_ref _
  ·split
   ·exact few_ref _
   ·split
    ·exact few_ref _
    ·split
     ·exact few_ref _
     ·obtain⟨R1,R2,R3,hR⟩:∃ R1 R2 R3,applyR d.docs o d.feed.total=(R1,R2,R3):=⟨_,_,_,rfl⟩
      obtain⟨_,_,_,_,_,h6⟩:=applyR_ok o _ hd hR
      rw[hR];exact few_small hd h6
theorem pullF_in {f:Feed} {a m:Int}:∀ c∈pullF f a m,c∈f.changes:=fun c hc=>List.mem_of_mem_drop (List.mem_of_mem_take hc)
theorem pullR_few {f:Feed} {a m:Int} (hf:mayF f=true):(pullR f a m).length≤16∧∀ c∈pullR f a m,c.doc.length≤16:=by
 rw[pullR]
 split
 ·rename_i h
  have hm:m≤16:=by
   rw[pullE] at h
   split at h
   ·rename_i k;exact k.2.2.1
   ·cases h
  refine⟨by rw[pullF,List.length_take];omega,fun c hc=>?_⟩
  obtain⟨i,hi,rfl⟩:=List.getElem_of_mem (pullF_in c hc)
  exact may_len ((mayF_iff.1 hf).2.1 i _ hi (List.getElem?_eq_getElem hi)).2.2.1
 ·simp
theorem readR_few {f:Feed} {n:ByteArray} {m:Int} (hf:mayF f=true):(readR f n m).length≤16∧∀ c∈readR f n m,c.doc.length≤16:=by
 cases g:getK Sub.name f.subs n with
 | false=>rw[(readE_none hf g).2.1];simp
 | true=>rw[(readE_at hf g).2.1];exact pullR_few hf
theorem few_reads {d:Depot} (o:Opn) (hd:mayD d.docs=true) (hf:mayF d.feed=true):FewA (readsA d o):=by
 rw[readsA]
 split
 ·obtain⟨R1,R2,R3,hR⟩:∃ R1 R2 R3,applyR d.docs o 0=(R1,R2,R3):=⟨_,_,_,rfl⟩
  obtain⟨_,_,_,_,_,h6⟩:=applyR_ok o _ hd hR
  rw[hR];exact few_small hd h6
 ·split
  ·split
   ·have:=readR_few (f:=d.feed) (n:=o.key) (m:=o.most) hf
    exact⟨by simp,by simp,⟨by show(readR _ _ _).length≤60;omega,fun c hc=>by have:=this.2 c hc;omega⟩,by simp⟩
   ·exact few_ref _
  ·split
   ·split
    ·have:=pullR_few (f:=d.feed) (a:=o.n) (m:=o.most) hf
     exact⟨by simp,by simp,⟨by show(pullR _ _ _).length≤60;omega,fun c hc=>by have:=this.2 c hc;omega⟩,by simp⟩
    ·exact few_ref _
   ·split
    ·have m:=mayD_iff.1 hd
     exact⟨by simp,⟨by show d.docs.length≤40;omega,fun c hc=>by have:=may_len (m.2.1 c hc).2;omega⟩,by simp,by simp⟩
    ·exact few_ref _
structure DepFew (d:Depot) (m:Nat):Prop where
 may:mayDp d=true
 chs:d.feed.changes.length≤m
 last:∀ x∈d.last,FewA x.answer
theorem turnR_chs {d:Depot} (o:Opn) (hd:mayD d.docs=true) (hf:mayF d.feed=true):(turnR d o).1.feed.changes.length≤d.feed.changes.length+4:=by
 unfold turnR
 split
 ·rcases openR_in (f:=d.feed) (n:=o.key) (a:=o.n) with h|h<;>(show(openR _ _ _).changes.length≤_;rw[h];simp)
 ·split
  ·rcases ackR_in (f:=d.feed) (n:=o.key) (a:=o.n) with h|h<;>(show(ackR _ _ _).changes.length≤_;rw[h];simp)
  ·split
   ·rcases closeR_in (f:=d.feed) (n:=o.key) with h|h<;>(show(closeR _ _).changes.length≤_;rw[h];simp)
   ·split
    ·have:=trimR_len (f:=d.feed) (p:=o.n)
     show(trimR _ _).changes.length≤_;omega
    ·split
     ·show d.feed.changes.length≤_;omega
     ·rename_i ht
      obtain⟨R1,R2,R3,hR⟩:∃ R1 R2 R3,applyR d.docs o d.feed.total=(R1,R2,R3):=⟨_,_,_,rfl⟩
      obtain⟨h1,_,h3,h4,h5,_⟩:=applyR_ok o _ hd hR
      rw[hR]
      show(addR d.feed R3).changes.length≤_
      rw[(add_ok hf h3 h4 (by omega)).2]
      show(d.feed.changes++R3).length≤_
      rw[List.length_append];omega
theorem toldL_few {l:List LastR} {c i:Int} {a:Answer} (hs:sortedL l) (h:∀ x∈l,FewA x.answer) (ht:toldL l c i=some a):FewA a:=by
 unfold toldL at ht
 split at ht
 ·cases ht;exact few_ref _
 ·split at ht
  ·rename_i k
   cases ht
   obtain⟨x,hx,_⟩:=posL_there hs k.1
   rw[lastA_at hx];exact h x (List.mem_of_getElem? hx)
  ·split at ht
   ·cases ht;exact few_ref _
   ·split at ht
    ·cases ht;exact few_ref _
    ·cases ht
theorem depotR_few {d : Depot} {m : Nat} (q : Reqn) (h : DepFew d m) : DepFew (depotR d q).1 (m + 4) ∧ FewA (depotR d q).2 := by
  obtain ⟨h1, h2, h3⟩ := mayDp_iff.1 h.may
  have hs := (lastsOk_iff.1 h3).2.2
  have hm := depotR_may q h.may
  have t1 := turnR_may q.op h1 h2
  have t2 := turnR_chs q.op h1 h2
  have t3 := few_turn q.op h1
  have hc := h.chs
  suffices H : (depotR d q).1.feed.changes.length ≤ m + 4 ∧ (∀ x ∈ (depotR d q).1.last, FewA x.answer) ∧ FewA (depotR d q).2 from ⟨⟨hm, H.1, H.2.1⟩, H.2.2⟩
  clear hm
  unfold depotR
  split
  · exact ⟨by show d.feed.changes.length ≤ _; omega, h.last, few_reads _ h1 h2⟩
  · split
    · exact ⟨by omega, by rw [t1.2.2]; exact h.last, t3⟩
    · split
      · rename_i a ha
        exact ⟨by show d.feed.changes.length ≤ _; omega, h.last, toldL_few hs h.last ha⟩
      · refine ⟨by show (turnR d q.op).1.feed.changes.length ≤ _; omega, fun x hx => ?_, t3⟩
        rcases putL_mem hx with rfl | hx
        · exact t3
        · exact h.last x hx
/-! the laws' own small question -/
def putO:Opn:=.mk 1 tx ByteArray.empty [] [] false 0 0 [] [] []
def req0:Reqn:=⟨5,1,putO⟩
def dep1:Depot:=⟨[⟨tx,[]⟩],⟨0,1,[⟨1,tx,true,[]⟩],[]⟩,[⟨5,1,answerN 1⟩]⟩
theorem light_nil:lightD []=true:=by
 have:numB 0=[UInt8.ofNat 0]:=numB_lo (by decide)
 rw[lightD,may_nil,Bool.true_and,decide_eq_true_eq]
 simp [docC,listC,putC,putCs,this]
theorem put_no:writeA [] putO=ans0:=by
 rw[writeA,if_neg (by simp [putO,Opn.key,key_tx]),if_neg (by simp [putO,Opn.kind]),if_neg (by simp [putO,Opn.doc,Opn.kind,may_nil]),if_neg (by simp [putO,Opn.kind]),if_neg (by simp [putO,Opn.doc,light_nil]),if_neg (by simp)]
theorem put_run:applyR [] putO 0=([⟨tx,[]⟩],answerN 1,[⟨1,tx,true,[]⟩]):=by
 have hw:writesB putO=true:=by simp [writesB,putO,Opn.kind]
 rw[applyR,if_pos hw,batchR,if_neg (by simp [notWrites,hw]),runB,if_neg (by simp [put_no,ans0]),runB]
 simp [foldD,writeC,putO,Opn.kind,Opn.key,Opn.doc,getK_no,insK,answerN]
theorem zeroF_may:mayF zeroF=true:=may_zeroF
theorem dep_first:depotR zeroD req0=(dep1,answerN 1):=by
 have ht:turnsB req0.op.kind=true:=by simp [turnsB,req0,putO,Opn.kind]
 have hT:turnR zeroD req0.op=(⟨[⟨tx,[]⟩],⟨0,1,[⟨1,tx,true,[]⟩],[]⟩,[]⟩,answerN 1):=by
  have hk:req0.op.kind=1:=rfl
  rw[turnR,if_neg (by omega),if_neg (by omega),if_neg (by omega),if_neg (by omega),if_neg (by simp [zeroD,zeroF])]
  have e:applyR zeroD.docs req0.op zeroD.feed.total=([⟨tx,[]⟩],answerN 1,[⟨1,tx,true,[]⟩]):=put_run
  rw[e]
  have:=add_ok (f:=zeroF) (l:=[⟨1,tx,true,[]⟩]) zeroF_may (by
   intro i c hc
   match i,hc with
   | 0,hc=>simp at hc;subst hc;rfl) (by
   intro c hc
   simp at hc;subst hc
   exact⟨key_tx,may_nil,.inl rfl⟩) (by simp [zeroF])
  show((⟨[⟨tx,[]⟩],addR zeroF [⟨1,tx,true,[]⟩],[]⟩:Depot),answerN 1)=_
  rw[this.2]
  simp [addF,zeroF]
 have hn:toldL zeroD.last req0.client req0.id=none:=by
  have hg:getL zeroD.last req0.client=false:=rfl
  rw[toldL,if_neg (by simp [countB,req0]),if_neg (by simp [hg]),if_neg (by simp [hg]),if_neg (by simp [zeroD])]
 rw[depotR,if_neg (by simp [ht]),if_neg (by simp [req0]),hn,hT]
 rfl
theorem dep1_may:mayDp dep1=true:=by
 have:=depotR_may (d:=zeroD) req0 (mayDp_iff.2 ⟨mayD_no,zeroF_may,lastsOk_iff.2 ⟨by simp [zeroD],by simp [zeroD],List.Pairwise.nil⟩⟩)
 rwa [dep_first] at this
theorem zeroD_may:mayDp zeroD=true:=mayDp_iff.2 ⟨mayD_no,zeroF_may,lastsOk_iff.2 ⟨by simp [zeroD],by simp [zeroD],List.Pairwise.nil⟩⟩
theorem few_ansN (n:Int):FewA (answerN n):=⟨by simp [answerN],by simp [answerN],by simp [answerN],by simp [answerN]⟩
theorem zeroD_few:DepFew zeroD 0:=⟨zeroD_may,by simp [zeroD,zeroF],by simp [zeroD]⟩
theorem dep1_few:DepFew dep1 1:=⟨dep1_may,by simp [dep1],by intro x hx;simp [dep1] at hx;subst hx;exact few_ansN 1⟩
theorem dep_again:depotR dep1 req0=(dep1,answerN 1):=by
 have ht:turnsB req0.op.kind=true:=by simp [turnsB,req0,putO,Opn.kind]
 have hg:getL dep1.last req0.client=true:=by simp [dep1,req0,getL,hasL]
 have hl:lastA dep1.last req0.client=⟨5,1,answerN 1⟩:=lastA_at (by simp [dep1,req0,posL])
 have hn:toldL dep1.last req0.client req0.id=some (answerN 1):=by
  rw[toldL,if_neg (by simp [countB,req0]),if_pos ⟨hg,by rw[hl];rfl⟩,hl]
 rw[depotR,if_neg (by simp [ht]),if_neg (by simp [req0]),hn]
theorem changes_le {f:Feed} (h:mayF f=true):∀ c∈f.changes,c.pos≤f.total:=fun c hc=>by
 obtain⟨⟨a1,a2,a3,a4,a5⟩,b,_⟩:=mayF_iff.1 h
 obtain⟨i,hi,rfl⟩:=List.getElem_of_mem hc
 have:=(b i _ hi (List.getElem?_eq_getElem hi)).1
 omega
structure NewCh (d D:Depot) (M cs:List Change):Prop where
 docs:D.docs=foldAll d.docs cs
 total:D.feed.total=d.feed.total+cs.length
 chs:D.feed.changes=M++cs
 old:∀ c∈M,c.pos≤d.feed.total
 pos:posFrom d.feed.total cs
theorem newCh_none {d D:Depot} (h1:D.docs=d.docs) (h2:D.feed.total=d.feed.total) (h3:∀ c∈D.feed.changes,c.pos≤d.feed.total):NewCh d D D.feed.changes [] :=
 ⟨by rw[h1];rfl,by simpa using h2,by simp,h3,posFrom_nil _⟩
theorem turnR_new {d:Depot} (o:Opn) (hd:mayD d.docs=true) (hf:mayF d.feed=true):∃ M cs,NewCh d (turnR d o).1 M cs:=by
 have hle:=changes_le hf
 unfold turnR
 split
 ·refine⟨_,_,newCh_none rfl ?_ ?_⟩
  ·show(openR _ _ _).total=_;rw[openR,if_pos hf];split<;>rfl
  ·intro c hc
   rcases openR_in (f:=d.feed) (n:=o.key) (a:=o.n) with h|h
   ·exact hle c (by rw[← h];exact hc)
   ·have hc:c∈(openR d.feed o.key o.n).changes:=hc
    rw[h] at hc;cases hc
 ·split
  ·refine⟨_,_,newCh_none rfl ?_ ?_⟩
   ·show(ackR _ _ _).total=_;rw[ackR,if_pos hf];split<;>rfl
   ·intro c hc
    rcases ackR_in (f:=d.feed) (n:=o.key) (a:=o.n) with h|h
    ·exact hle c (by rw[← h];exact hc)
    ·have hc:c∈(ackR d.feed o.key o.n).changes:=hc
     rw[h] at hc;cases hc
  ·split
   ·refine⟨_,_,newCh_none rfl ?_ ?_⟩
    ·show(closeR _ _).total=_;rw[closeR,if_pos hf];split<;>rfl
    ·intro c hc
     rcases closeR_in (f:=d.feed) (n:=o.key) with h|h
     ·exact hle c (by rw[← h];exact hc)
     ·have hc:c∈(closeR d.feed o.key).changes:=hc
      rw[h] at hc;cases hc
   ·split
    ·refine⟨_,_,newCh_none rfl ?_ ?_⟩
     ·show(trimR _ _).total=_
      rw[trimR,if_pos hf,cutF];split<;>rfl
     ·exact fun c hc=>hle c (trimR_in c hc)
    ·split
     ·exact⟨_,_,newCh_none rfl rfl hle⟩
     ·rename_i ht
      obtain⟨R1,R2,R3,hR⟩:∃ R1 R2 R3,applyR d.docs o d.feed.total=(R1,R2,R3):=⟨_,_,_,rfl⟩
      obtain⟨h1,h2,h3,h4,h5,_⟩:=applyR_ok o _ hd hR
      rw[hR]
      have ha:=(add_ok hf h3 h4 (by omega)).2
      refine⟨d.feed.changes,R3,⟨h2,?_,?_,hle,h3⟩⟩
      ·show(addR d.feed R3).total=_;rw[ha];rfl
      ·show(addR d.feed R3).changes=_;rw[ha];rfl
theorem depotR_new {d:Depot} (q:Reqn) (h:mayDp d=true):(∃ M cs,NewCh d (depotR d q).1 M cs)∧(turnsB q.op.kind=false→(depotR d q).1=d):=by
 obtain⟨h1,h2,h3⟩:=mayDp_iff.1 h
 have hle:=changes_le h2
 have none:∃ M cs,NewCh d d M cs:=⟨_,_,newCh_none rfl rfl hle⟩
 unfold depotR
 split
 ·exact⟨none,fun _=>rfl⟩
 ·rename_i ht
  refine⟨?_,fun k=>absurd k ht⟩
  split
  ·exact turnR_new q.op h1 h2
  ·split
   ·exact none
   ·obtain⟨M,cs,k⟩:=turnR_new q.op h1 h2
    exact⟨M,cs,⟨k.docs,k.total,k.chs,k.old,k.pos⟩⟩
open Go Go.Proofs Go.Proofs.Tryz
set_option maxRecDepth 10000
theorem shape_errno {n:Nat} {xs:List PV} (h:shape prog n 34 xs):∃ m:Int,xs=[.int .i64 m]∧-9223372036854775808≤m∧m≤9223372036854775807:=by
 cases n with
 | zero=>exact h.elim
 | succ n =>
  simp only [shape,Tryz.underlying34] at h
  obtain⟨m,rfl,hm⟩:=h
  refine⟨m,rfl,?_⟩
  simp only [Lit.wf,Bool.and_eq_true,decide_eq_true_eq] at hm
  exact hm
theorem cOp0:prog.cellsOf 170=2:=by decide +kernel
theorem cOp1:prog.cellsOf 9=1:=by decide +kernel
theorem cOp2:prog.cellsOf 28=1:=by decide +kernel
def Ndoc.In (c:Ndoc):Prop:=inS (c.key)∧((c.doc).length≤9223372036854775807∧∀ y∈c.doc,y.In)
theorem shape_ndoc {n:Nat} {xs:List PV} (h:shape prog n 170 xs):∃ c:Ndoc,WkL (Ndoc.enc Opq.id c) xs∧c.In:=by
 cases n with
 | zero=>exact h.elim
 | succ n =>
  simp only [shape,Tryz.underlying170,List.forall_mem_cons,List.not_mem_nil,false_imp_iff,implies_true,and_true,cOp0,cOp1,cOp2] at h
  obtain⟨hl,h0,h1⟩:=h
  match xs,hl with
  | [x0,x1],_ =>
  obtain⟨a0,e0,i0⟩:=shape_str (xs:=[x0]) h0
  obtain⟨a1,w1,i1⟩:=shape_doc (x:=x1) h1
  cases e0
  exact⟨⟨a0,a1⟩,(WkL.append (WkL.refl [_]) (WkL.cons w1 (WkL.refl []))),⟨i0,i1⟩⟩
theorem shape_ndocs {n:Nat} {x:PV} (h:shape prog n 30 [x]):∃ l:List Ndoc,Wk (.sl false 0 false 2 (l.map (Ndoc.enc Opq.id))) x∧l.length≤9223372036854775807∧∀ c∈l,c.In:=by
 cases n with
 | zero=>exact h.elim
 | succ n =>
  simp only [shape,Tryz.underlying30,cOp0] at h
  rcases h with h | ⟨rows,h,hl,hr⟩
  ·cases h
   exact⟨[],.nil _ _,by simp,by simp⟩
  ·cases h
   obtain⟨l,hw,hll,hi⟩:=rows_wkx (fun r hr=>shape_ndoc hr) hr
   exact⟨l,.sl' rfl rfl hw,by rw[hll];simpa [maxLen] using hl,hi⟩
theorem cOp3:prog.cellsOf 217=2:=by decide +kernel
def PairK.In (c:PairK):Prop:=inS (c.key)∧inS (c.val)
theorem shape_pairk {n:Nat} {xs:List PV} (h:shape prog n 217 xs):∃ c:PairK,WkL (PairK.enc c) xs∧c.In:=by
 cases n with
 | zero=>exact h.elim
 | succ n =>
  simp only [shape,Tryz.underlying217,List.forall_mem_cons,List.not_mem_nil,false_imp_iff,implies_true,and_true,cOp3,cOp1] at h
  obtain⟨hl,h0,h1⟩:=h
  match xs,hl with
  | [x0,x1],_ =>
  obtain⟨a0,e0,i0⟩:=shape_str (xs:=[x0]) h0
  obtain⟨a1,e1,i1⟩:=shape_str (xs:=[x1]) h1
  cases e0;cases e1
  exact⟨⟨a0,a1⟩,(WkL.append (WkL.refl [_]) (WkL.refl [_])),⟨i0,i1⟩⟩
theorem shape_pairks {n:Nat} {x:PV} (h:shape prog n 35 [x]):∃ l:List PairK,Wk (.sl false 0 false 2 (l.map (PairK.enc))) x∧l.length≤9223372036854775807∧∀ c∈l,c.In:=by
 cases n with
 | zero=>exact h.elim
 | succ n =>
  simp only [shape,Tryz.underlying35,cOp3] at h
  rcases h with h | ⟨rows,h,hl,hr⟩
  ·cases h
   exact⟨[],.nil _ _,by simp,by simp⟩
  ·cases h
   obtain⟨l,hw,hll,hi⟩:=rows_wkx (fun r hr=>shape_pairk hr) hr
   exact⟨l,.sl' rfl rfl hw,by rw[hll];simpa [maxLen] using hl,hi⟩
theorem cOp4:prog.cellsOf 37=8:=by decide +kernel
theorem cOp5:prog.cellsOf 34=1:=by decide +kernel
theorem cOp6:prog.cellsOf 4=1:=by decide +kernel
theorem cOp7:prog.cellsOf 30=1:=by decide +kernel
theorem cOp8:prog.cellsOf 31=1:=by decide +kernel
theorem cOp9:prog.cellsOf 3=1:=by decide +kernel
theorem cOp10:prog.cellsOf 35=1:=by decide +kernel
def Answer.In (c:Answer):Prop:=inI (c.code)∧((c.doc).length≤9223372036854775807∧∀ y∈c.doc,y.In)∧((c.docs).length≤9223372036854775807∧∀ y∈c.docs,y.In)∧((c.news).length≤9223372036854775807∧∀ y∈c.news,y.In)∧inI (c.n)∧inI (c.total)∧((c.keys).length≤9223372036854775807∧∀ y∈c.keys,y.In)
theorem shape_answer {n:Nat} {xs:List PV} (h:shape prog n 37 xs):∃ c:Answer,WkL (Answer.enc Opq.id c) xs∧c.In:=by
 cases n with
 | zero=>exact h.elim
 | succ n =>
  simp only [shape,Tryz.underlying37,List.forall_mem_cons,List.not_mem_nil,false_imp_iff,implies_true,and_true,cOp4,cOp5,cOp6,cOp2,cOp7,cOp8,cOp9,cOp10] at h
  obtain⟨hl,h0,h1,h2,h3,h4,h5,h6,h7⟩:=h
  match xs,hl with
  | [x0,x1,x2,x3,x4,x5,x6,x7],_ =>
  obtain⟨a0,e0,i0⟩:=shape_errno (xs:=[x0]) h0
  obtain⟨a1,e1⟩:=shape_bool (xs:=[x1]) h1
  obtain⟨a2,w2,i2⟩:=shape_doc (x:=x2) h2
  obtain⟨a3,w3,i3⟩:=shape_ndocs (x:=x3) h3
  obtain⟨a4,w4,i4⟩:=shape_changes (x:=x4) h4
  obtain⟨a5,e5,i5⟩:=shape_int (xs:=[x5]) h5
  obtain⟨a6,e6,i6⟩:=shape_int (xs:=[x6]) h6
  obtain⟨a7,w7,i7⟩:=shape_pairks (x:=x7) h7
  cases e0;cases e1;cases e5;cases e6
  exact⟨⟨a0,a1,a2,a3,a4,a5,a6,a7⟩,(WkL.append (WkL.refl [_]) (WkL.append (WkL.refl [_]) (WkL.append (WkL.cons w2 (WkL.refl [])) (WkL.append (WkL.cons w3 (WkL.refl [])) (WkL.append (WkL.cons w4 (WkL.refl [])) (WkL.append (WkL.refl [_]) (WkL.append (WkL.refl [_]) (WkL.cons w7 (WkL.refl []))))))))),⟨i0,i2,i3,i4,i5,i6,i7⟩⟩
theorem cOp11:prog.cellsOf 33=11:=by decide +kernel
theorem cOp12:prog.cellsOf 29=1:=by decide +kernel
inductive Opn.In:Opn→Prop
 | mk {c:Opn} (h:inI (c.kind)∧inS (c.key)∧inS (c.to)∧((c.doc).length≤9223372036854775807∧∀ y∈c.doc,y.In)∧((c.want).length≤9223372036854775807∧∀ y∈c.want,y.In)∧inI (c.n)∧inI (c.most)∧((c.docs).length≤9223372036854775807∧∀ y∈c.docs,y.In)∧((c.news).length≤9223372036854775807∧∀ y∈c.news,y.In)) (hl:c.list.length≤9223372036854775807) (hr:∀ y∈c.list,y.In):c.In
theorem shape_opn:∀ {n:Nat} {xs:List PV},shape prog n 33 xs→∃ c:Opn,WkL (Opn.enc Opq.id c) xs∧c.In
 | 0,_,h=>h.elim
 | 1,_,h=>by
  simp only [shape,Tryz.underlying33,List.forall_mem_cons,List.not_mem_nil,false_imp_iff,implies_true,and_true] at h
  exact h.2.1.elim
 | n+2,xs,h=>by
  have ih:=fun(r:List PV)=>shape_opn (n:=n) (xs:=r)
  rw[shape] at h
  simp only [Tryz.underlying33,List.forall_mem_cons,List.not_mem_nil,false_imp_iff,implies_true,and_true,cOp11,cOp9,cOp1,cOp2,cOp6,cOp12,cOp7,cOp8] at h
  obtain⟨hl,h0,h1,h2,h3,h4,h5,h6,h7,h8,h9,h10⟩:=h
  match xs,hl with
  | [x0,x1,x2,x3,x4,x5,x6,x7,x8,x9,x10],_ =>
  obtain⟨a0,e0,i0⟩:=shape_int (xs:=[x0]) h0
  obtain⟨a1,e1,i1⟩:=shape_str (xs:=[x1]) h1
  obtain⟨a2,e2,i2⟩:=shape_str (xs:=[x2]) h2
  obtain⟨a3,w3,i3⟩:=shape_doc (x:=x3) h3
  obtain⟨a4,w4,i4⟩:=shape_doc (x:=x4) h4
  obtain⟨a5,e5⟩:=shape_bool (xs:=[x5]) h5
  obtain⟨a6,e6,i6⟩:=shape_int (xs:=[x6]) h6
  obtain⟨a7,e7,i7⟩:=shape_int (xs:=[x7]) h7
  obtain⟨a8,w8,ll8,il8⟩:∃ l:List Opn,Wk (.sl false 0 false 11 (Ops.enc Opq.id l)) x8∧l.length≤9223372036854775807∧∀ c∈l,c.In:=by
   simp only [List.drop_succ_cons,List.drop_zero,List.take_succ_cons,List.take_zero,shape,Tryz.underlying29,cOp11] at h8
   rcases h8 with h8 | ⟨rows,h8,hl,hr⟩
   ·cases h8
    exact⟨[],.nil _ _,by simp,by simp⟩
   ·cases h8
    obtain⟨l,hw,hll,hi⟩:=rows_wkx (fun r hr=>ih r hr) hr
    rw[← Ops.enc_map] at hw
    exact⟨l,.sl' rfl rfl hw,by rw[hll];simpa [maxLen] using hl,hi⟩
  obtain⟨a9,w9,i9⟩:=shape_ndocs (x:=x9) h9
  obtain⟨a10,w10,i10⟩:=shape_changes (x:=x10) h10
  cases e0;cases e1;cases e2;cases e5;cases e6;cases e7
  exact⟨.mk a0 a1 a2 a3 a4 a5 a6 a7 a8 a9 a10,(WkL.append (WkL.refl [_]) (WkL.append (WkL.refl [_]) (WkL.append (WkL.refl [_]) (WkL.append (WkL.cons w3 (WkL.refl [])) (WkL.append (WkL.cons w4 (WkL.refl [])) (WkL.append (WkL.refl [_]) (WkL.append (WkL.refl [_]) (WkL.append (WkL.refl [_]) (WkL.append (WkL.cons w8 (WkL.refl [])) (WkL.append (WkL.cons w9 (WkL.refl [])) (WkL.cons w10 (WkL.refl [])))))))))))),.mk ⟨i0,i1,i2,i3,i4,i6,i7,i9,i10⟩ ll8 il8⟩
def Reqn.ens (O:Opq) (q:Reqn):List PV:=.int .i64 q.client::.int .i64 q.id::Opn.enc O q.op
theorem Reqn.en_eq (O:Opq) (q:Reqn):Reqn.en O q=Reqn.ens O q:=by rw[Reqn.ens,Opn.en_eq];rfl
theorem shape_feedL {n:Nat} {xs:List PV} (h:shape prog n 62 xs):∃ f:Feed,WkL (f.enc Opq.id) xs∧f.In:=by
 cases n with
 | zero=>exact h.elim
 | succ n =>
  simp only [shape,Tryz.underlying62,List.forall_mem_cons,List.not_mem_nil,false_imp_iff,implies_true,and_true,cFe3,cFe5,cFe6,c3] at h
  obtain⟨hl,h1,h2,h3,h4⟩:=h
  match xs,hl with
  | [x,y,z,u],_ =>
  obtain⟨a,ea,ia⟩:=shape_int (xs:=[x]) h1
  obtain⟨b,eb,ib⟩:=shape_int (xs:=[y]) h2
  obtain⟨l,wl,ll,il⟩:=shape_changes (x:=z) h3
  obtain⟨s,ws,ls,is⟩:=shape_subs (x:=u) h4
  cases ea;cases eb
  exact⟨⟨a,b,l,s⟩,.cons (.refl _) (.cons (.refl _) (.cons wl (.cons ws (.refl _)))),ia,ib,ll,ls,il,is⟩
theorem cDe0:prog.cellsOf 131=10:=by decide +kernel
theorem cDe1:prog.cellsOf 3=1:=by decide +kernel
theorem cDe2:prog.cellsOf 37=8:=by decide +kernel
def LastR.In (c:LastR):Prop:=inI (c.client)∧inI (c.id)∧(c.answer).In
theorem shape_lastr {n:Nat} {xs:List PV} (h:shape prog n 131 xs):∃ c:LastR,WkL (LastR.enc Opq.id c) xs∧c.In:=by
 cases n with
 | zero=>exact h.elim
 | succ n =>
  simp only [shape,Tryz.underlying131,List.forall_mem_cons,List.not_mem_nil,false_imp_iff,implies_true,and_true,cDe0,cDe1,cDe2] at h
  obtain⟨hl,h0,h1,h2⟩:=h
  match xs,hl with
  | [x0,x1,x2,x3,x4,x5,x6,x7,x8,x9],_ =>
  obtain⟨a0,e0,i0⟩:=shape_int (xs:=[x0]) h0
  obtain⟨a1,e1,i1⟩:=shape_int (xs:=[x1]) h1
  obtain⟨a2,w2,i2⟩:=shape_answer (xs:=[x2,x3,x4,x5,x6,x7,x8,x9]) h2
  cases e0;cases e1
  exact⟨⟨a0,a1,a2⟩,(WkL.append (WkL.refl [_]) (WkL.append (WkL.refl [_]) w2)),⟨i0,i1,i2⟩⟩
theorem shape_lasts {n:Nat} {x:PV} (h:shape prog n 63 [x]):∃ l:List LastR,Wk (.sl false 0 false 10 (l.map (LastR.enc Opq.id))) x∧l.length≤9223372036854775807∧∀ c∈l,c.In:=by
 cases n with
 | zero=>exact h.elim
 | succ n =>
  simp only [shape,Tryz.underlying63,cDe0] at h
  rcases h with h | ⟨rows,h,hl,hr⟩
  ·cases h
   exact⟨[],.nil _ _,by simp,by simp⟩
  ·cases h
   obtain⟨l,hw,hll,hi⟩:=rows_wkx (fun r hr=>shape_lastr hr) hr
   exact⟨l,.sl' rfl rfl hw,by rw[hll];simpa [maxLen] using hl,hi⟩
theorem cDe3:prog.cellsOf 65=6:=by decide +kernel
theorem cDe4:prog.cellsOf 30=1:=by decide +kernel
theorem cDe5:prog.cellsOf 62=4:=by decide +kernel
theorem cDe6:prog.cellsOf 63=1:=by decide +kernel
def Depot.In (c:Depot):Prop:=((c.docs).length≤9223372036854775807∧∀ y∈c.docs,y.In)∧(c.feed).In∧((c.last).length≤9223372036854775807∧∀ y∈c.last,y.In)
theorem shape_depot {n:Nat} {xs:List PV} (h:shape prog n 65 xs):∃ c:Depot,WkL (Depot.enc Opq.id c) xs∧c.In:=by
 cases n with
 | zero=>exact h.elim
 | succ n =>
  simp only [shape,Tryz.underlying65,List.forall_mem_cons,List.not_mem_nil,false_imp_iff,implies_true,and_true,cDe3,cDe4,cDe5,cDe6] at h
  obtain⟨hl,h0,h1,h2⟩:=h
  match xs,hl with
  | [x0,x1,x2,x3,x4,x5],_ =>
  obtain⟨a0,w0,i0⟩:=shape_ndocs (x:=x0) h0
  obtain⟨a1,w1,i1⟩:=shape_feedL (xs:=[x1,x2,x3,x4]) h1
  obtain⟨a2,w2,i2⟩:=shape_lasts (x:=x5) h2
  exact⟨⟨a0,a1,a2⟩,(WkL.append (WkL.cons w0 (WkL.refl [])) (WkL.append w1 (WkL.cons w2 (WkL.refl [])))),⟨i0,i1,i2⟩⟩
theorem cDe7:prog.cellsOf 70=13:=by decide +kernel
theorem cDe8:prog.cellsOf 33=11:=by decide +kernel
def Reqn.In (c:Reqn):Prop:=inI (c.client)∧inI (c.id)∧(c.op).In
theorem shape_reqn {n:Nat} {xs:List PV} (h:shape prog n 70 xs):∃ c:Reqn,WkL (Reqn.ens Opq.id c) xs∧c.In:=by
 cases n with
 | zero=>exact h.elim
 | succ n =>
  simp only [shape,Tryz.underlying70,List.forall_mem_cons,List.not_mem_nil,false_imp_iff,implies_true,and_true,cDe7,cDe1,cDe8] at h
  obtain⟨hl,h0,h1,h2⟩:=h
  match xs,hl with
  | [x0,x1,x2,x3,x4,x5,x6,x7,x8,x9,x10,x11,x12],_ =>
  obtain⟨a0,e0,i0⟩:=shape_int (xs:=[x0]) h0
  obtain⟨a1,e1,i1⟩:=shape_int (xs:=[x1]) h1
  obtain⟨a2,w2,i2⟩:=shape_opn (xs:=[x2,x3,x4,x5,x6,x7,x8,x9,x10,x11,x12]) h2
  cases e0;cases e1
  exact⟨⟨a0,a1,a2⟩,(WkL.append (WkL.refl [_]) (WkL.append (WkL.refl [_]) w2)),⟨i0,i1,i2⟩⟩
theorem shape_reqns {n:Nat} {x:PV} (h:shape prog n 58 [x]):∃ l:List Reqn,Wk (.sl false 0 false 13 (l.map (Reqn.ens Opq.id))) x∧l.length≤9223372036854775807∧∀ c∈l,c.In:=by
 cases n with
 | zero=>exact h.elim
 | succ n =>
  simp only [shape,Tryz.underlying58,cDe7] at h
  rcases h with h | ⟨rows,h,hl,hr⟩
  ·cases h
   exact⟨[],.nil _ _,by simp,by simp⟩
  ·cases h
   obtain⟨l,hw,hll,hi⟩:=rows_wkx (fun r hr=>shape_reqn hr) hr
   exact⟨l,.sl' rfl rfl hw,by rw[hll];simpa [maxLen] using hl,hi⟩
open Go Go.Proofs.Tryz
theorem WkL.aggA {xs ys:List PV} (h:WkL xs ys):WkA (.agg xs) (.agg ys):=.agg' ⟨h.len,fun j x y p q=>.wk (h.at' j x y p q)⟩
theorem Doc.paths {d:Doc} (h:∀ f∈d,f.In):pathsOk d:=fun f hf=>(h f hf).1
theorem Opn.paths {o:Opn} (h:o.In):PathsO o:=by
 cases h with
 | mk h hl hr =>
  obtain⟨_,_,_,hd,hw,_⟩:=h
  refine⟨Doc.paths hd.2,Doc.paths hw.2,fun x hx=>?_⟩
  cases hr x hx with
  | mk h' _ _ =>
   obtain⟨_,_,_,hd',hw',_⟩:=h'
   exact⟨Doc.paths hd'.2,Doc.paths hw'.2⟩
end Go.Sym
