/- Configurations: the law's small question (conf.Chain, conf.Role). -/
import Derived.Test.YtbneclkckmdkgaaGreatDoorK30
set_option linter.all false
set_option linter.unusedVariables false
set_option linter.unusedSimpArgs false
namespace Go.Sym
open Go Go.Proofs.Tryz
set_option maxRecDepth 100000
theorem chain_fn (O:Opq) (rev ever id:Int) (chains:List Chn) (c1:chains.length≤1000000) (c2:∀ x∈chains,x.mem.length≤1000000) {i:Nat} {X:Chn} (hX:chains[i]?=some X) (hi:findG (idP id) chains=i) :
  Fn prog 19 [.agg [.int .i64 rev,.int .i64 ever,.sl false 0 false 5 (O.o (Chns.enc O) chains)],.int .i64 id] [] [.agg (X.enc O),.bool true] []:=by
 have hlen:=Chns.len O chains
 have ko:=ownC_fn O rev ever chains c1 c2
 have ka:=confAt_fn O rev ever id chains c1
 rw[O.h (findG (idP id)),hi] at ka
 have hil:=(List.getElem?_eq_some_iff.1 hX).1
 obtain⟨N,hN⟩:∃ N:Nat,N=chains.length:=⟨_,rfl⟩
 rw[← hN] at hlen c1 hil
 clear hN c2 hi
 obtain⟨x1,x2,x3,x4,x5⟩:=X
 refine go (fn:=Proofs.Tryz.f19) (n:=17) (rv:=[ResultVar.cell 4 34,ResultVar.tmp 5]) rfl (by decide) rfl (by decide +kernel) rfl rfl (by simp) fun F L C=>?_
 cbv
 (repeat' first|(refine Na ?_ fun _ _=>?_;(focus lia);cbv)|(refine CallThen.mk _ _ (C.fn (ko)) ?_;cbv)|(refine CallThen.mk _ _ (C.fn (ka)) ?_;cbv)|(refine Ex.chn O hX ?_ ?_;(focus lia);cbv)|(refine Nl fun _ _ hq=>?_;(try simp only [lenS] at hq);cbv)|(refine Nm fun _ _=>?_;cbv)|(refine Br.t ?_ ?_;(focus first|assumption|lia);cbv)|(refine Br.f ?_ ?_;(focus first|assumption|lia);cbv)|(refine Br.mk (fun _=>?_) (fun _=>?_)<;>cbv)|(refine Need.mk ?_ ?_;rotate_left;cbv)|(refine R0 ?_;cbv))
 all_goals first
  | exact⟨rfl,rfl,trivial⟩
  | exact⟨rfl,.refl _,trivial⟩
  | exact⟨.refl _,trivial⟩
  | (exfalso;clear ka ko hX;lia)
  | (clear ka ko hX;lia)
  | trace_state
theorem role_fn (O:Opq):Fn prog 20 [.agg [.int .i64 1,.str ByteArray.empty,.int .i64 2,.sl false 0 false 1 [[.int .i64 1],[.int .i64 3]],.int .i64 0],.int .i64 3] [] [.int .i64 1,.int .i64 0,.bool true] []:=by
 have kc:=cloneI_fn O [1,3] (by decide)
 have ki:=indexI_fn O [1,3] 3 (by decide)
 rw[show O.o NumsE [1,3]=[[.int .i64 1],[.int .i64 3]] by rw[O.h];rfl] at kc ki
 rw[O.h (idxI 3),show idxI 3 [1,3]=1 by decide] at ki
 refine go (fn:=Proofs.Tryz.f20) (n:=37) (rv:=[ResultVar.tmp 4,ResultVar.tmp 5,ResultVar.tmp 6]) rfl (by decide) rfl (by decide +kernel) rfl rfl (by simp) fun F L C=>?_
 cbv
 (repeat' first|(refine Named.at' [[.int .i64 0],[.int .i64 1],[.int .i64 3]] rfl ?_;cbv)|(refine Named.at' [[.int .i64 0],[.int .i64 1],[.int .i64 3],[.int .i64 0]] rfl ?_;cbv)|(refine Named.at' (1:Nat) rfl ?_;cbv)|(refine Named.at' (3:Nat) rfl ?_;cbv)|(refine Named.at' (3:Int) (by decide) ?_;cbv)|(refine Na ?_ fun _ _=>?_;(focus lia);cbv)|(refine Ex.mk [.int .i64 1] ⟨by decide,rfl⟩ ?_;cbv)|(refine Ex.mk [.int .i64 0] ⟨by decide,rfl⟩ ?_;cbv)|(refine CallThen.mk _ _ (C.fn (kc)) ?_;cbv)|(refine CallThen.mk _ _ (C.fn (ki)) ?_;cbv)|(refine Nl fun _ _ hq=>?_;(try simp only [lenS] at hq);cbv)|(refine Nm fun _ _=>?_;cbv)|(refine Br.t ?_ ?_;(focus first|assumption|lia);cbv)|(refine Br.f ?_ ?_;(focus first|assumption|lia);cbv)|(refine Br.mk (fun _=>?_) (fun _=>?_)<;>cbv)|(refine Need.mk ?_ ?_;rotate_left;cbv)|(refine R0 ?_;cbv))
 all_goals first
  | exact⟨rfl,rfl,trivial⟩
  | exact trivial
  | (clear kc ki;decide)
  | trace_state
def cnf0:Cnf:=⟨0,0,[]⟩
def chn1:Chn:=⟨1,ByteArray.empty,1,[1,2,3],0⟩
def cnf1:Cnf:=⟨1,1,[chn1]⟩
def chn2:Chn:=⟨1,ByteArray.empty,2,[1,3],0⟩
def cnf2:Cnf:=⟨2,1,[chn2]⟩
def cmd1:CmdK:=⟨4,0,0,0,ByteArray.empty,[1,2,3]⟩
def cmd2:CmdK:=⟨1,1,1,2,ByteArray.empty,[]⟩
theorem nodes123:nodesOk [1,2,3]:=⟨by decide,by decide,by decide,by decide⟩
theorem may0:mayC cnf0:=⟨⟨by decide,by decide⟩,⟨by decide,by decide⟩,by decide,by simp [cnf0],by simp [cnf0]⟩
theorem may1:mayC cnf1:=⟨⟨by decide,by decide⟩,⟨by decide,by decide⟩,by decide,fun x hx=>by
 have:x=chn1:=by simpa [cnf1] using hx
 subst this
 exact⟨by decide,by decide,nodes123,⟨by decide,by decide⟩,by show defOk 1 ByteArray.empty;rw[defOk,if_pos rfl],.inl rfl⟩,by simp [cnf1]⟩
theorem ask1:applyC cnf0 cmd1=(cnf1,0):=by
 have h1:nodesOk cmd1.nodes∧defOk (cnf0.ever+1) cmd1.dfn:=⟨nodes123,by rw[defOk,if_pos (by decide)];rfl⟩
 have h2:¬ ∃ x∈cnf0.chains,x.dfn=cmd1.dfn:=by simp [cnf0]
 have h3:¬ (cnf0.chains.length=4∨cnf0.ever=maxCount):=by decide
 rw[applyC,if_neg (not_not_intro may0),if_neg (by decide),if_neg (by decide),if_pos (by decide),if_neg (not_not_intro h1),if_neg h2,if_neg h3,bumpC,if_neg (by decide)]
 rfl
theorem ask2:applyC cnf1 cmd2=(cnf2,0):=by
 rw[applyC,if_neg (not_not_intro may1),if_neg (by decide),if_pos (by decide)]
 have h1:atC cnf1 cmd2.chain=some 0:=by decide
 have h2:cnf1.chains[0]?=some chn1:=rfl
 have h3:turnC chn1 cmd2=(chn2,0):=by
  rw[turnC,if_neg (by decide),if_neg (by decide),if_neg (by decide),if_pos (by decide),doneC,if_neg (by decide)]
  rfl
 rw[h1]
 dsimp only
 rw[h2]
 dsimp only
 rw[h3,if_neg (by decide),bumpC,if_neg (by decide)]
 rfl
theorem awake19_fn (O:Opq):Fn prog 9 [] [] [.bool true] []:=by
 have en1:O.o NumsE [1,2,3]=[[.int .i64 1],[.int .i64 2],[.int .i64 3]]:=by rw[O.h];rfl
 have en2:O.o NumsE [1,3]=[[.int .i64 1],[.int .i64 3]]:=by rw[O.h];rfl
 have en0:O.o NumsE []=[]:=by rw[O.h];rfl
 have e0:O.o (Chns.enc O) []=[]:=by rw[O.h];rfl
 have k1:=apply_fn O cnf0 cmd1 (by decide) (by simp [cnf0]) (by decide) (by decide)
 rw[ask1] at k1
 have k2:=apply_fn O cnf1 cmd2 (by decide) (by simp [cnf1,chn1]) (by decide) (by decide)
 rw[ask2] at k2
 have k3:=chain_fn O 2 1 1 [chn2] (by decide) (by simp [chn2]) (i:=0) (X:=chn2) rfl (by decide)
 have k4:=role_fn O
 have a0:Cnf.enc O cnf0=[.int .i64 0,.int .i64 0,.sl false 0 false 5 []]:=by show[PV.int .i64 0,.int .i64 0,.sl false 0 false 5 (O.o (Chns.enc O) [])]=_;rw[e0]
 have b1:CmdK.enc O cmd1=[.int .i64 4,.int .i64 0,.int .i64 0,.int .i64 0,.str ByteArray.empty,.sl false 0 false 1 [[.int .i64 1],[.int .i64 2],[.int .i64 3]]]:=by
  show[PV.int .i64 4,.int .i64 0,.int .i64 0,.int .i64 0,.str ByteArray.empty,.sl false 0 false 1 (O.o NumsE [1,2,3])]=_;rw[en1]
 have b2:CmdK.enc O cmd2=[.int .i64 1,.int .i64 1,.int .i64 1,.int .i64 2,.str ByteArray.empty,.sl false 0 false 1 []]:=by
  show[PV.int .i64 1,.int .i64 1,.int .i64 1,.int .i64 2,.str ByteArray.empty,.sl false 0 false 1 (O.o NumsE [])]=_;rw[en0]
 have x2:Chn.enc O chn2=[.int .i64 1,.str ByteArray.empty,.int .i64 2,.sl false 0 false 1 [[.int .i64 1],[.int .i64 3]],.int .i64 0]:=by
  show[PV.int .i64 1,.str ByteArray.empty,.int .i64 2,.sl false 0 false 1 (O.o NumsE [1,3]),.int .i64 0]=_;rw[en2]
 rw[a0,b1] at k1
 rw[b2] at k2
 rw[x2] at k3
 obtain⟨R1,hR1⟩:∃ R,R=O.o (Chns.enc O) [chn1]:=⟨_,rfl⟩
 obtain⟨R2,hR2⟩:∃ R,R=O.o (Chns.enc O) [chn2]:=⟨_,rfl⟩
 have a1:Cnf.enc O cnf1=[.int .i64 1,.int .i64 1,.sl false 0 false 5 R1]:=by rw[hR1];rfl
 have a2:Cnf.enc O cnf2=[.int .i64 2,.int .i64 1,.sl false 0 false 5 R2]:=by rw[hR2];rfl
 rw[show(cnf1,(0:Int)).1=cnf1 from rfl,a1] at k1
 rw[show(cnf2,(0:Int)).1=cnf2 from rfl,a1,a2] at k2
 rw[← hR2] at k3
 clear hR1 hR2 a1 a2 a0 b1 b2 x2 en0 en1 en2 e0
 refine goM (modeOf 5 [.bor,.keep]) (fn:=Proofs.Tryz.f9) (n:=64) (rv:=[ResultVar.tmp 0]) rfl (by decide) rfl (by decide +kernel) rfl rfl (by simp) fun F L C=>?_
 cbv
 (repeat' first|(refine Na ?_ fun _ _=>?_;(focus lia);cbv)|(refine CallThen.mk _ _ (C.fn (Fn.wkA (k1) ?_)) ?_;(focus((repeat' apply WkAL.cons)<;>first|exact WkAL.nil|exact WkA.refl _|exact WkA.lend rfl|exact WkA.bor rfl (WkR.refl _)|exact WkA.wk (Wk.nil _ _)|exact WkA.wk (Wk.sl' rfl rfl (WkR.refl _))|(refine WkA.agg' ?_;((repeat' apply WkAL.cons)<;>first|exact WkAL.nil|exact WkA.refl _|exact WkA.lend rfl|exact WkA.bor rfl (WkR.refl _)|exact WkA.wk (Wk.nil _ _)|exact WkA.wk (Wk.sl' rfl rfl (WkR.refl _))|(refine WkA.agg' ?_;((repeat' apply WkAL.cons)<;>first|exact WkAL.nil|exact WkA.refl _|exact WkA.lend rfl|exact WkA.bor rfl (WkR.refl _)|exact WkA.wk (Wk.nil _ _)|exact WkA.wk (Wk.sl' rfl rfl (WkR.refl _))))))));cbv)|(refine CallThen.mk _ _ (C.fn (Fn.wkA (k2) ?_)) ?_;(focus((repeat' apply WkAL.cons)<;>first|exact WkAL.nil|exact WkA.refl _|exact WkA.lend rfl|exact WkA.bor rfl (WkR.refl _)|exact WkA.wk (Wk.nil _ _)|exact WkA.wk (Wk.sl' rfl rfl (WkR.refl _))|(refine WkA.agg' ?_;((repeat' apply WkAL.cons)<;>first|exact WkAL.nil|exact WkA.refl _|exact WkA.lend rfl|exact WkA.bor rfl (WkR.refl _)|exact WkA.wk (Wk.nil _ _)|exact WkA.wk (Wk.sl' rfl rfl (WkR.refl _))|(refine WkA.agg' ?_;((repeat' apply WkAL.cons)<;>first|exact WkAL.nil|exact WkA.refl _|exact WkA.lend rfl|exact WkA.bor rfl (WkR.refl _)|exact WkA.wk (Wk.nil _ _)|exact WkA.wk (Wk.sl' rfl rfl (WkR.refl _))))))));cbv)|(refine CallThen.mk _ _ (C.fn (k3)) ?_;cbv)|(refine CallThen.mk _ _ (C.fn (k4)) ?_;cbv)|(refine CallThen.mk _ _ (C.fn (k1)) ?_;cbv)|(refine CallThen.mk _ _ (C.fn (k2)) ?_;cbv)|(refine Nl fun _ _ hq=>?_;(try simp only [lenS] at hq);cbv)|(refine Nm fun _ _=>?_;cbv)|(refine Br.t ?_ ?_;(focus first|assumption|lia);cbv)|(refine Br.f ?_ ?_;(focus first|assumption|lia);cbv)|(refine Br.mk (fun _=>?_) (fun _=>?_)<;>cbv)|(refine Need.mk ?_ ?_;rotate_left;cbv)|(refine R0 ?_;cbv))
 all_goals first
  | exact⟨rfl,trivial⟩
  | exact trivial
  | trace_state
end Go.Sym
