/- Configurations: what a command makes of one (conf.Apply). -/
import Derived.Test.YtbneclkckmdkgaaGreatDoorK29
import Derived.Test.YtbneclkckmdkgaaGreatDoorK23
set_option linter.all false
set_option linter.unusedVariables false
set_option linter.unusedSimpArgs false
namespace Go.Sym
open Go Go.Proofs.Tryz
set_option maxRecDepth 100000
theorem at_none {c:Cnf} {id:Int} (h:atC c id=none):findG (idP id) c.chains=-1:=by
 unfold atC at h
 split at h
 ·cases h
 ·rename_i hn
  rw[findG,if_neg]
  intro ha
  obtain⟨x,hx,hp⟩:=List.any_eq_true.1 ha
  exact hn (List.findIdx_lt_length_of_exists ⟨x,hx,by simpa [idP] using hp⟩)
theorem at_some {c:Cnf} {id:Int} {i:Nat} (h:atC c id=some i):findG (idP id) c.chains=i∧i<c.chains.length:=by
 unfold atC at h
 split at h
 ·rename_i hlt
  cases h
  refine⟨?_,hlt⟩
  rw[findG,if_pos]
  ·rfl
  ·obtain⟨x,hx,hp⟩:=List.findIdx_lt_length.1 hlt
   exact List.any_eq_true.2 ⟨x,hx,by simpa [idP] using hp⟩
 ·cases h
abbrev fApply:Nat:=5
section
variable (O:Opq) {rev ever k1 k2 k3 k4:Int} {k5:ByteArray} {k6:List Int} {chains:List Chn} {I:Int}
theorem app_may (h1:¬ mayC ⟨rev,ever,chains⟩) (kc:Fn prog 12 [.agg [.int .i64 rev,.int .i64 ever,.sl false 0 false 5 (O.o (Chns.enc O) chains)]] [] [.int .i64 1] []):Fn prog fApply [.agg [.int .i64 rev,.int .i64 ever,.sl false 0 false 5 (O.o (Chns.enc O) chains)],.agg ((⟨k1,k2,k3,k4,k5,k6⟩:CmdK).enc O)] [] [.agg [.int .i64 0,.int .i64 0,.sl false 0 false 5 []],.int .i64 1] []:=by
 have ka:=kc
 refine go (fn:=Proofs.Tryz.f5) (n:=78) (rv:=[ResultVar.cell 4 25,ResultVar.tmp 5]) rfl (by decide) rfl (by decide +kernel) rfl rfl (by simp) fun F L C=>?_
 cbv
 (repeat' first|(refine Na ?_ fun _ _=>?_;(focus lia);cbv)|(fail)|(refine CallThen.mk _ _ (C.fn (kc)) ?_;cbv)|(refine CallThen.mk _ _ (C.fn (ka)) ?_;cbv)|(refine RetThen.mk [] [0] ?_;cbv)|(refine Nl fun _ _ hq=>?_;(try simp only [lenS] at hq);cbv)|(refine Nm fun _ _=>?_;cbv)|(refine Br.t ?_ ?_;(focus first|assumption|lia);cbv)|(refine Br.f ?_ ?_;(focus first|assumption|lia);cbv)|(refine Br.mk (fun _=>?_) (fun _=>?_)<;>cbv)|(refine Need.mk ?_ ?_;rotate_left;cbv)|(refine R0 ?_;cbv))
 all_goals first
  | exact⟨.refl _,trivial⟩
  | exact⟨rfl,.refl _,trivial⟩
  | exact⟨.refl _,rfl,trivial⟩
  | exact⟨rfl,rfl,.refl _,rfl,trivial⟩
  | (exfalso;clear ka kc;lia)
  | (clear ka kc;lia)
  | trace_state
theorem app_see (h6:k1=6)
  (kc:Fn prog 12 [.agg [.int .i64 rev,.int .i64 ever,.sl false 0 false 5 (O.o (Chns.enc O) chains)]] [] [.int .i64 0] [])
  (ka:Fn prog 14 [.agg [.int .i64 rev,.int .i64 ever,.sl false 0 false 5 (O.o (Chns.enc O) chains)],.int .i64 k2] [] [.int .i64 I] [])
  (ko:Fn prog 13 [.agg [.int .i64 rev,.int .i64 ever,.sl false 0 false 5 (O.o (Chns.enc O) chains)]] [] [.agg [.int .i64 rev,.int .i64 ever,.sl false 0 false 5 (O.o (Chns.enc O) chains)]] []):Fn prog fApply [.agg [.int .i64 rev,.int .i64 ever,.sl false 0 false 5 (O.o (Chns.enc O) chains)],.agg ((⟨k1,k2,k3,k4,k5,k6⟩:CmdK).enc O)] [] [.agg [.int .i64 rev,.int .i64 ever,.sl false 0 false 5 (O.o (Chns.enc O) chains)],.int .i64 0] []:=by
 refine go (fn:=Proofs.Tryz.f5) (n:=78) (rv:=[ResultVar.cell 4 25,ResultVar.tmp 5]) rfl (by decide) rfl (by decide +kernel) rfl rfl (by simp) fun F L C=>?_
 cbv
 (repeat' first|(refine Na ?_ fun _ _=>?_;(focus lia);cbv)|(refine CallThen.mk _ _ (C.fn (ko)) ?_;cbv)|(refine CallThen.mk _ _ (C.fn (kc)) ?_;cbv)|(refine CallThen.mk _ _ (C.fn (ka)) ?_;cbv)|(refine RetThen.mk [] [0] ?_;cbv)|(refine Nl fun _ _ hq=>?_;(try simp only [lenS] at hq);cbv)|(refine Nm fun _ _=>?_;cbv)|(refine Br.t ?_ ?_;(focus first|assumption|lia);cbv)|(refine Br.f ?_ ?_;(focus first|assumption|lia);cbv)|(refine Br.mk (fun _=>?_) (fun _=>?_)<;>cbv)|(refine Need.mk ?_ ?_;rotate_left;cbv)|(refine R0 ?_;cbv))
 all_goals first
  | exact⟨.refl _,trivial⟩
  | exact⟨rfl,.refl _,trivial⟩
  | exact⟨.refl _,rfl,trivial⟩
  | exact⟨rfl,rfl,.refl _,rfl,trivial⟩
  | (exfalso;clear ka kc ko;lia)
  | (clear ka kc ko;lia)
  | trace_state
theorem app_not {E:Int} (h:((k1=1∨k1=2∨k1=3)∧I=-1∧E=4)∨(k1=5∧I=-1∧E=4)∨(k1=5∧0≤I∧k2=1∧E=1)∨((k1<1∨6<k1)∧E=1))
  (kc:Fn prog 12 [.agg [.int .i64 rev,.int .i64 ever,.sl false 0 false 5 (O.o (Chns.enc O) chains)]] [] [.int .i64 0] [])
  (ka:Fn prog 14 [.agg [.int .i64 rev,.int .i64 ever,.sl false 0 false 5 (O.o (Chns.enc O) chains)],.int .i64 k2] [] [.int .i64 I] [])
  (ko:Fn prog 13 [.agg [.int .i64 rev,.int .i64 ever,.sl false 0 false 5 (O.o (Chns.enc O) chains)]] [] [.agg [.int .i64 rev,.int .i64 ever,.sl false 0 false 5 (O.o (Chns.enc O) chains)]] []):Fn prog fApply [.agg [.int .i64 rev,.int .i64 ever,.sl false 0 false 5 (O.o (Chns.enc O) chains)],.agg ((⟨k1,k2,k3,k4,k5,k6⟩:CmdK).enc O)] [] [.agg [.int .i64 rev,.int .i64 ever,.sl false 0 false 5 (O.o (Chns.enc O) chains)],.int .i64 E] []:=by
 rcases h with ⟨h1,h2,rfl⟩ | ⟨h1,h2,rfl⟩ | ⟨h1,h2,h3,rfl⟩ | ⟨h1,rfl⟩
 ·refine go (fn:=Proofs.Tryz.f5) (n:=78) (rv:=[ResultVar.cell 4 25,ResultVar.tmp 5]) rfl (by decide) rfl (by decide +kernel) rfl rfl (by simp) fun F L C=>?_
  cbv
  (repeat' first|(refine Na ?_ fun _ _=>?_;(focus lia);cbv)|(refine CallThen.mk _ _ (C.fn (ko)) ?_;cbv)|(refine CallThen.mk _ _ (C.fn (kc)) ?_;cbv)|(refine CallThen.mk _ _ (C.fn (ka)) ?_;cbv)|(refine RetThen.mk [] [0] ?_;cbv)|(refine Nl fun _ _ hq=>?_;(try simp only [lenS] at hq);cbv)|(refine Nm fun _ _=>?_;cbv)|(refine Br.t ?_ ?_;(focus first|assumption|lia);cbv)|(refine Br.f ?_ ?_;(focus first|assumption|lia);cbv)|(refine Br.mk (fun _=>?_) (fun _=>?_)<;>cbv)|(refine Need.mk ?_ ?_;rotate_left;cbv)|(refine R0 ?_;cbv))
  all_goals first
   | exact⟨.refl _,trivial⟩
   | exact⟨rfl,.refl _,trivial⟩
   | exact⟨.refl _,rfl,trivial⟩
   | exact⟨rfl,rfl,.refl _,rfl,trivial⟩
   | (exfalso;clear ka kc ko;lia)
   | (clear ka kc ko;lia)
   | trace_state
 ·refine go (fn:=Proofs.Tryz.f5) (n:=78) (rv:=[ResultVar.cell 4 25,ResultVar.tmp 5]) rfl (by decide) rfl (by decide +kernel) rfl rfl (by simp) fun F L C=>?_
  cbv
  (repeat' first|(refine Na ?_ fun _ _=>?_;(focus lia);cbv)|(refine CallThen.mk _ _ (C.fn (ko)) ?_;cbv)|(refine CallThen.mk _ _ (C.fn (kc)) ?_;cbv)|(refine CallThen.mk _ _ (C.fn (ka)) ?_;cbv)|(refine RetThen.mk [] [0] ?_;cbv)|(refine Nl fun _ _ hq=>?_;(try simp only [lenS] at hq);cbv)|(refine Nm fun _ _=>?_;cbv)|(refine Br.t ?_ ?_;(focus first|assumption|lia);cbv)|(refine Br.f ?_ ?_;(focus first|assumption|lia);cbv)|(refine Br.mk (fun _=>?_) (fun _=>?_)<;>cbv)|(refine Need.mk ?_ ?_;rotate_left;cbv)|(refine R0 ?_;cbv))
  all_goals first
   | exact⟨.refl _,trivial⟩
   | exact⟨rfl,.refl _,trivial⟩
   | exact⟨.refl _,rfl,trivial⟩
   | exact⟨rfl,rfl,.refl _,rfl,trivial⟩
   | (exfalso;clear ka kc ko;lia)
   | (clear ka kc ko;lia)
   | trace_state
 ·refine go (fn:=Proofs.Tryz.f5) (n:=78) (rv:=[ResultVar.cell 4 25,ResultVar.tmp 5]) rfl (by decide) rfl (by decide +kernel) rfl rfl (by simp) fun F L C=>?_
  cbv
  (repeat' first|(refine Na ?_ fun _ _=>?_;(focus lia);cbv)|(refine CallThen.mk _ _ (C.fn (ko)) ?_;cbv)|(refine CallThen.mk _ _ (C.fn (kc)) ?_;cbv)|(refine CallThen.mk _ _ (C.fn (ka)) ?_;cbv)|(refine RetThen.mk [] [0] ?_;cbv)|(refine Nl fun _ _ hq=>?_;(try simp only [lenS] at hq);cbv)|(refine Nm fun _ _=>?_;cbv)|(refine Br.t ?_ ?_;(focus first|assumption|lia);cbv)|(refine Br.f ?_ ?_;(focus first|assumption|lia);cbv)|(refine Br.mk (fun _=>?_) (fun _=>?_)<;>cbv)|(refine Need.mk ?_ ?_;rotate_left;cbv)|(refine R0 ?_;cbv))
  all_goals first
   | exact⟨.refl _,trivial⟩
   | exact⟨rfl,.refl _,trivial⟩
   | exact⟨.refl _,rfl,trivial⟩
   | exact⟨rfl,rfl,.refl _,rfl,trivial⟩
   | (exfalso;clear ka kc ko;lia)
   | (clear ka kc ko;lia)
   | trace_state
 ·refine go (fn:=Proofs.Tryz.f5) (n:=78) (rv:=[ResultVar.cell 4 25,ResultVar.tmp 5]) rfl (by decide) rfl (by decide +kernel) rfl rfl (by simp) fun F L C=>?_
  cbv
  (repeat' first|(refine Na ?_ fun _ _=>?_;(focus lia);cbv)|(refine CallThen.mk _ _ (C.fn (ko)) ?_;cbv)|(refine CallThen.mk _ _ (C.fn (kc)) ?_;cbv)|(refine CallThen.mk _ _ (C.fn (ka)) ?_;cbv)|(refine RetThen.mk [] [0] ?_;cbv)|(refine Nl fun _ _ hq=>?_;(try simp only [lenS] at hq);cbv)|(refine Nm fun _ _=>?_;cbv)|(refine Br.t ?_ ?_;(focus first|assumption|lia);cbv)|(refine Br.f ?_ ?_;(focus first|assumption|lia);cbv)|(refine Br.mk (fun _=>?_) (fun _=>?_)<;>cbv)|(refine Need.mk ?_ ?_;rotate_left;cbv)|(refine R0 ?_;cbv))
  all_goals first
   | exact⟨.refl _,trivial⟩
   | exact⟨rfl,.refl _,trivial⟩
   | exact⟨.refl _,rfl,trivial⟩
   | exact⟨rfl,rfl,.refl _,rfl,trivial⟩
   | (exfalso;clear ka kc ko;lia)
   | (clear ka kc ko;lia)
   | trace_state
end
end Go.Sym
namespace Go.Sym
open Go Go.Proofs.Tryz
set_option maxRecDepth 100000
section
variable (O:Opq) {rev ever k1 k2 k3 k4:Int} {k5:ByteArray} {k6:List Int} {chains:List Chn} {I:Int}
variable (kc:Fn prog 12 [.agg [.int .i64 rev,.int .i64 ever,.sl false 0 false 5 (O.o (Chns.enc O) chains)]] [] [.int .i64 0] [])
variable (ko:Fn prog 13 [.agg [.int .i64 rev,.int .i64 ever,.sl false 0 false 5 (O.o (Chns.enc O) chains)]] [] [.agg [.int .i64 rev,.int .i64 ever,.sl false 0 false 5 (O.o (Chns.enc O) chains)]] [])
include kc ko
theorem app_turn {i:Nat} {X:Chn} {l2:List Chn} {E:Int} (hr:0≤rev∧rev≤2147483647) (hk:k1=1∨k1=2∨k1=3) (hl:chains.length≤1000000) (hi:i<chains.length)
  (ka:Fn prog 14 [.agg [.int .i64 rev,.int .i64 ever,.sl false 0 false 5 (O.o (Chns.enc O) chains)],.int .i64 k2] [] [.int .i64 (i:Int)] [])
  (kx:Fn prog 13 [.agg [.int .i64 rev,.int .i64 ever,.sl false 0 false 5 (O.o (Chns.enc O) chains)]] [] [.agg [.int .i64 rev,.int .i64 ever,.ref 0]]
   [.arrx 0 5 (O.o (Chns.enc O) chains) i [.int .i64 X.id,.str X.dfn,.int .i64 X.epoch,.ref 1,.int .i64 X.joiner],.arr 0 none 1 (O.o NumsE X.mem)])
  (kt:Fn prog 15 [.er 0 i 0,.agg ((⟨k1,k2,k3,k4,k5,k6⟩:CmdK).enc O)] [.arrx 0 5 (O.o (Chns.enc O) chains) i [.int .i64 X.id,.str X.dfn,.int .i64 X.epoch,.ref 1,.int .i64 X.joiner],.arr 0 none 1 (O.o NumsE X.mem)] [.int .i64 E] [.frz 0 5 (O.o (Chns.enc O) l2),.dead]) :
  (E≠0→Fn prog fApply [.agg [.int .i64 rev,.int .i64 ever,.sl false 0 false 5 (O.o (Chns.enc O) chains)],.agg ((⟨k1,k2,k3,k4,k5,k6⟩:CmdK).enc O)] [] [.agg [.int .i64 rev,.int .i64 ever,.sl false 0 false 5 (O.o (Chns.enc O) chains)],.int .i64 E] []) ∧
  (E=0→rev=2147483647→Fn prog fApply [.agg [.int .i64 rev,.int .i64 ever,.sl false 0 false 5 (O.o (Chns.enc O) chains)],.agg ((⟨k1,k2,k3,k4,k5,k6⟩:CmdK).enc O)] [] [.agg [.int .i64 rev,.int .i64 ever,.sl false 0 false 5 (O.o (Chns.enc O) chains)],.int .i64 2] []) ∧
  (E=0→rev≠2147483647→Fn prog fApply [.agg [.int .i64 rev,.int .i64 ever,.sl false 0 false 5 (O.o (Chns.enc O) chains)],.agg ((⟨k1,k2,k3,k4,k5,k6⟩:CmdK).enc O)] [] [.agg [.int .i64 (rev+1),.int .i64 ever,.sl false 0 false 5 (O.o (Chns.enc O) l2)],.int .i64 0] []):=by
 have hlen:=Chns.len O chains
 obtain⟨rev1,hev1⟩:∃ e:Int,e=rev+1:=⟨_,rfl⟩
 have he2:rev1=IntKind.i64.wrap (rev+1):=by rw[wrap64 (by omega)];exact hev1
 obtain⟨N,hN⟩:∃ N:Nat,N=chains.length:=⟨_,rfl⟩
 rw[← hN] at hlen hl hi
 clear hN
 rw[← hev1]
 refine⟨fun hE=>?_,fun hE hm=>?_,fun hE hm=>?_⟩
 all_goals
  refine go (fn:=Proofs.Tryz.f5) (n:=78) (rv:=[ResultVar.cell 4 25,ResultVar.tmp 5]) rfl (by decide) rfl (by decide +kernel) rfl rfl (by simp) fun F L C=>?_
  cbv
  (repeat' first|(refine Named.at' i rfl ?_;cbv)|(refine Named.at' rev1 he2 ?_;cbv)|(refine Na ?_ fun _ _=>?_;(focus lia);cbv)|(refine CallThen.mk _ _ (C.fn (kx)) ?_;clear kx;cbv)|(refine CallThen.mk _ _ (C.fn (ko)) ?_;cbv)|(refine CallThen.mk _ _ (C.fn (kt)) ?_;cbv)|(refine CallThen.mk _ _ (C.fn (kc)) ?_;cbv)|(refine CallThen.mk _ _ (C.fn (ka)) ?_;cbv)|(refine RetThen.mk [] [1216] ?_;cbv)|(refine Nl fun _ _ hq=>?_;(try simp only [lenS] at hq);cbv)|(refine Nm fun _ _=>?_;cbv)|(refine Br.t ?_ ?_;(focus first|assumption|lia);cbv)|(refine Br.f ?_ ?_;(focus first|assumption|lia);cbv)|(refine Br.mk (fun _=>?_) (fun _=>?_)<;>cbv)|(refine Need.mk ?_ ?_;rotate_left;cbv)|(refine R0 ?_;cbv))
  all_goals first
   | exact⟨.refl _,trivial⟩
   | exact⟨rfl,.refl _,trivial⟩
   | exact⟨.refl _,rfl,trivial⟩
   | exact⟨rfl,rfl,.refl _,rfl,trivial⟩
   | (rename_i R eR;exact⟨.of_eq eR.symm,trivial⟩)
   | (exfalso;clear ka kc ko kt;lia)
   | (clear ka kc ko kt;lia)
   | trace_state
theorem app_index {E ever2:Int} {l2:List Chn} (hr:0≤rev∧rev≤2147483647) (hk:k1=4)
  (ka:Fn prog 14 [.agg [.int .i64 rev,.int .i64 ever,.sl false 0 false 5 (O.o (Chns.enc O) chains)],.int .i64 k2] [] [.int .i64 I] [])
  (kx:Fn prog 13 [.agg [.int .i64 rev,.int .i64 ever,.sl false 0 false 5 (O.o (Chns.enc O) chains)]] [] [.agg [.int .i64 rev,.int .i64 ever,.ref 0]] [.arr 0 none 5 (O.o (Chns.enc O) chains)])
  (kt:Fn prog 16 [.agg [.int .i64 rev,.int .i64 ever,.ref 0],.agg ((⟨k1,k2,k3,k4,k5,k6⟩:CmdK).enc O)] [.arr 0 none 5 (O.o (Chns.enc O) chains)] [.agg [.int .i64 rev,.int .i64 ever2,.sl false 0 false 5 (O.o (Chns.enc O) l2)],.int .i64 E] [.dead]) :
  (E≠0→Fn prog fApply [.agg [.int .i64 rev,.int .i64 ever,.sl false 0 false 5 (O.o (Chns.enc O) chains)],.agg ((⟨k1,k2,k3,k4,k5,k6⟩:CmdK).enc O)] [] [.agg [.int .i64 rev,.int .i64 ever,.sl false 0 false 5 (O.o (Chns.enc O) chains)],.int .i64 E] []) ∧
  (E=0→rev=2147483647→Fn prog fApply [.agg [.int .i64 rev,.int .i64 ever,.sl false 0 false 5 (O.o (Chns.enc O) chains)],.agg ((⟨k1,k2,k3,k4,k5,k6⟩:CmdK).enc O)] [] [.agg [.int .i64 rev,.int .i64 ever,.sl false 0 false 5 (O.o (Chns.enc O) chains)],.int .i64 2] []) ∧
  (E=0→rev≠2147483647→Fn prog fApply [.agg [.int .i64 rev,.int .i64 ever,.sl false 0 false 5 (O.o (Chns.enc O) chains)],.agg ((⟨k1,k2,k3,k4,k5,k6⟩:CmdK).enc O)] [] [.agg [.int .i64 (rev+1),.int .i64 ever2,.sl false 0 false 5 (O.o (Chns.enc O) l2)],.int .i64 0] []):=by
 obtain⟨rev1,hev1⟩:∃ e:Int,e=rev+1:=⟨_,rfl⟩
 have he2:rev1=IntKind.i64.wrap (rev+1):=by rw[wrap64 (by omega)];exact hev1
 rw[← hev1]
 refine⟨fun hE=>?_,fun hE hm=>?_,fun hE hm=>?_⟩
 all_goals
  refine goM (modeOf 16 [.own,.keep]) (fn:=Proofs.Tryz.f5) (n:=78) (rv:=[ResultVar.cell 4 25,ResultVar.tmp 5]) rfl (by decide) rfl (by decide +kernel) rfl rfl (by simp) fun F L C=>?_
  cbv
  (repeat' first|(refine Named.at' rev1 he2 ?_;cbv)|(refine Na ?_ fun _ _=>?_;(focus lia);cbv)|(refine CallThen.mk _ _ (C.fn (kx)) ?_;clear kx;cbv)|(refine CallThen.mk _ _ (C.fn (ko)) ?_;cbv)|(refine CallThen.mk _ _ (C.fn (kt)) ?_;cbv)|(refine CallThen.mk _ _ (C.fn (kc)) ?_;cbv)|(refine CallThen.mk _ _ (C.fn (ka)) ?_;cbv)|(refine RetThen.mk [] [1216] ?_;cbv)|(refine Nl fun _ _ hq=>?_;(try simp only [lenS] at hq);cbv)|(refine Nm fun _ _=>?_;cbv)|(refine Br.t ?_ ?_;(focus first|assumption|lia);cbv)|(refine Br.f ?_ ?_;(focus first|assumption|lia);cbv)|(refine Br.mk (fun _=>?_) (fun _=>?_)<;>cbv)|(refine Need.mk ?_ ?_;rotate_left;cbv)|(refine R0 ?_;cbv))
  all_goals first
   | exact⟨.refl _,trivial⟩
   | exact⟨rfl,.refl _,trivial⟩
   | exact⟨.refl _,rfl,trivial⟩
   | exact⟨rfl,rfl,.refl _,rfl,trivial⟩
   | (rename_i R eR;exact⟨.of_eq eR.symm,trivial⟩)
   | (exfalso;clear ka kc ko kt;lia)
   | (clear ka kc ko kt;lia)
   | trace_state
theorem app_drop {i:Nat} {l2:List Chn} (hr:0≤rev∧rev≤2147483647) (hk:k1=5) (h1:k2≠1) (hi:i<1000000)
  (ka:Fn prog 14 [.agg [.int .i64 rev,.int .i64 ever,.sl false 0 false 5 (O.o (Chns.enc O) chains)],.int .i64 k2] [] [.int .i64 (i:Int)] [])
  (kx:Fn prog 13 [.agg [.int .i64 rev,.int .i64 ever,.sl false 0 false 5 (O.o (Chns.enc O) chains)]] [] [.agg [.int .i64 rev,.int .i64 ever,.ref 0]] [.arr 0 none 5 (O.o (Chns.enc O) chains)])
  (kt:Fn prog 17 [.ref 0,.int .i64 (i:Int),.int .i64 ((i:Int)+1)] [.arr 0 none 5 (O.o (Chns.enc O) chains)] [.sl false 0 false 5 (O.o (Chns.enc O) l2)] [.dead]) :
  (rev=2147483647→Fn prog fApply [.agg [.int .i64 rev,.int .i64 ever,.sl false 0 false 5 (O.o (Chns.enc O) chains)],.agg ((⟨k1,k2,k3,k4,k5,k6⟩:CmdK).enc O)] [] [.agg [.int .i64 rev,.int .i64 ever,.sl false 0 false 5 (O.o (Chns.enc O) chains)],.int .i64 2] []) ∧
  (rev≠2147483647→Fn prog fApply [.agg [.int .i64 rev,.int .i64 ever,.sl false 0 false 5 (O.o (Chns.enc O) chains)],.agg ((⟨k1,k2,k3,k4,k5,k6⟩:CmdK).enc O)] [] [.agg [.int .i64 (rev+1),.int .i64 ever,.sl false 0 false 5 (O.o (Chns.enc O) l2)],.int .i64 0] []):=by
 obtain⟨rev1,hev1⟩:∃ e:Int,e=rev+1:=⟨_,rfl⟩
 have he2:rev1=IntKind.i64.wrap (rev+1):=by rw[wrap64 (by omega)];exact hev1
 obtain⟨J,hJ⟩:∃ e:Int,e=(i:Int)+1:=⟨_,rfl⟩
 have hJ2:J=IntKind.i64.wrap ((i:Int)+1):=by rw[wrap64 (by omega)];exact hJ
 have hI:(0:Int)≤i:=by omega
 obtain⟨I,hII⟩:∃ I:Int,I=i:=⟨_,rfl⟩
 rw[← hJ] at kt
 rw[← hII] at kt ka hJ2 hI
 rw[← hev1]
 refine⟨fun hm=>?_,fun hm=>?_⟩
 all_goals
  refine go (fn:=Proofs.Tryz.f5) (n:=78) (rv:=[ResultVar.cell 4 25,ResultVar.tmp 5]) rfl (by decide) rfl (by decide +kernel) rfl rfl (by simp) fun F L C=>?_
  cbv
  (repeat' first|(refine Named.at' J hJ2 ?_;cbv)|(refine Named.at' rev1 he2 ?_;cbv)|(refine Na ?_ fun _ _=>?_;(focus lia);cbv)|(refine CallThen.mk _ _ (C.fn (kx)) ?_;clear kx;cbv)|(refine CallThen.mk _ _ (C.fn (ko)) ?_;cbv)|(refine CallThen.mk _ _ (C.fn (kt)) ?_;cbv)|(refine CallThen.mk _ _ (C.fn (kc)) ?_;cbv)|(refine CallThen.mk _ _ (C.fn (ka)) ?_;cbv)|(refine RetThen.mk [] [1216] ?_;cbv)|(refine Nl fun _ _ hq=>?_;(try simp only [lenS] at hq);cbv)|(refine Nm fun _ _=>?_;cbv)|(refine Br.t ?_ ?_;(focus first|assumption|lia);cbv)|(refine Br.f ?_ ?_;(focus first|assumption|lia);cbv)|(refine Br.mk (fun _=>?_) (fun _=>?_)<;>cbv)|(refine Need.mk ?_ ?_;rotate_left;cbv)|(refine R0 ?_;cbv))
  all_goals first
   | exact⟨.refl _,trivial⟩
   | exact⟨rfl,.refl _,trivial⟩
   | exact⟨.refl _,rfl,trivial⟩
   | exact⟨rfl,rfl,.refl _,rfl,trivial⟩
   | (rename_i R eR;exact⟨.of_eq eR.symm,trivial⟩)
   | (exfalso;clear ka kc ko kt;lia)
   | (clear ka kc ko kt;lia)
   | trace_state
end
end Go.Sym
namespace Go.Sym
open Go Go.Proofs.Tryz
set_option maxRecDepth 100000
theorem apply_fn (O:Opq) (c:Cnf) (k:CmdK) (c1:c.chains.length≤1000000) (c2:∀ x∈c.chains,x.mem.length≤1000000∧x.dfn.size≤1000000) (hn:k.nodes.length≤1000000) (hd:k.dfn.size≤1000000000) :
  Fn prog fApply [.agg (c.enc O),.agg (k.enc O)] [] [.agg ((applyC c k).1.enc O),.int .i64 (applyC c k).2] []:=by
 obtain⟨rev,ever,chains⟩:=c
 obtain⟨k1,k2,k3,k4,k5,k6⟩:=k
 have c1:chains.length≤1000000:=c1
 have kc:=confCheck_fn O rev ever chains c1 c2
 have c2':∀ x∈chains,x.mem.length≤1000000:=fun x hx=>(c2 x hx).1
 have ko:=ownC_fn O rev ever chains c1 c2'
 have ka:=confAt_fn O rev ever k2 chains c1
 rw[O.h mayE] at kc
 rw[O.h (findG (idP k2))] at ka
 unfold applyC
 by_cases hm:mayC ⟨rev,ever,chains⟩
 ·rw[mayE_yes hm] at kc
  have hr:0≤rev∧rev≤2147483647:=hm.1
  have he:0≤ever∧ever≤2147483647:=hm.2.1
  rw[if_neg (not_not_intro hm)]
  by_cases h6:k1=6
  ·rw[if_pos h6];exact app_see O h6 kc ka ko
  rw[if_neg h6]
  by_cases h3:k1=1∨k1=2∨k1=3
  ·rw[if_pos h3]
   cases hat:atC ⟨rev,ever,chains⟩ k2 with
   | none =>
    have:=at_none hat
    rw[show findG (idP k2) chains=-1 from this] at ka
    exact app_not O (.inl ⟨h3,rfl,rfl⟩) kc ka ko
   | some i =>
    have hs:=at_some hat
    have hi:i<chains.length:=hs.2
    rw[show findG (idP k2) chains=i from hs.1] at ka
    obtain⟨X,hX⟩:∃ X,chains[i]?=some X:=⟨chains[i],by simp [hi]⟩
    have hXm:=List.mem_of_getElem? hX
    have kx:=ownX_fn O rev ever chains c1 c2' hX
    have kt:=turnX_fn O (k:=⟨k1,k2,k3,k4,k5,k6⟩) hX c1 (c2' X hXm) (by have h:=(hm.2.2.2.1 X hXm).2.2.2.1;exact⟨by have:=h.1;omega,h.2⟩) h3
    rw[O.h (turnC X)] at kt
    have q:=app_turn O kc ko hr h3 c1 hi ka kx kt
    dsimp only
    rw[hX]
    dsimp only
    by_cases hE:(turnC X ⟨k1,k2,k3,k4,k5,k6⟩).2≠0
    ·rw[if_pos hE];exact q.1 hE
    ·rw[if_neg hE]
     have hE:(turnC X ⟨k1,k2,k3,k4,k5,k6⟩).2=0:=Classical.not_not.1 hE
     unfold bumpC
     by_cases hmx:rev=maxCount
     ·rw[if_pos hmx];exact q.2.1 hE hmx
     ·rw[if_neg hmx];exact q.2.2 hE hmx
  rw[if_neg h3]
  by_cases h4:k1=4
  ·rw[if_pos h4]
   have kx:=ownR_fn O rev ever chains c1 c2'
   have kt:=confIndex_fn O rev ever chains ⟨k1,k2,k3,k4,k5,k6⟩ c1 hn hd he
   have hC:indexC ever chains ⟨k1,k2,k3,k4,k5,k6⟩=if ¬ (nodesD k6=true∧defD (ever+1) k5=true) then 1 else if (chains.any (dfP k5))=true then 11 else if chains.length=4∨ever=2147483647 then 2 else 0:=rfl
   have hq:(nodesD k6=true∧defD (ever+1) k5=true) ↔ (nodesOk k6∧defOk (ever+1) k5):=by rw[nodesD_iff,defD_iff]
   dsimp only
   by_cases a1:¬ (nodesOk k6∧defOk (ever+1) k5)
   ·rw[if_pos (fun h=>a1 (hq.1 h))] at hC
    rw[if_pos a1]
    have kt:=kt.2 (by rw[hC];decide)
    rw[hC] at kt
    exact(app_index O kc ko hr h4 ka kx kt).1 (by decide)
   rw[if_neg (fun h=>a1 fun g=>h (hq.2 g))] at hC
   rw[if_neg a1]
   have hany:(chains.any (dfP k5))=true ↔ ∃ x∈chains,x.dfn=k5:=by simp [dfP]
   by_cases a2:∃ x∈chains,x.dfn=k5
   ·rw[if_pos (hany.2 a2)] at hC
    rw[if_pos a2]
    have kt:=kt.2 (by rw[hC];decide)
    rw[hC] at kt
    exact(app_index O kc ko hr h4 ka kx kt).1 (by decide)
   rw[if_neg (fun h=>a2 (hany.1 h))] at hC
   rw[if_neg a2]
   by_cases a3:chains.length=4∨ever=maxCount
   ·rw[if_pos (show chains.length=4∨ever=2147483647 from a3)] at hC
    rw[if_pos a3]
    have kt:=kt.2 (by rw[hC];decide)
    rw[hC] at kt
    exact(app_index O kc ko hr h4 ka kx kt).1 (by decide)
   rw[if_neg (show ¬ (chains.length=4∨ever=2147483647) from a3)] at hC
   rw[if_neg a3]
   have q:=app_index O kc ko hr h4 ka kx (kt.1 hC)
   unfold bumpC
   by_cases hmx:rev=maxCount
   ·rw[if_pos hmx];exact q.2.1 rfl hmx
   ·rw[if_neg hmx];exact q.2.2 rfl hmx
  rw[if_neg h4]
  by_cases h5:k1=5
  ·rw[if_pos h5]
   cases hat:atC ⟨rev,ever,chains⟩ k2 with
   | none =>
    have:=at_none hat
    rw[show findG (idP k2) chains=-1 from this] at ka
    exact app_not O (.inr (.inl ⟨h5,rfl,rfl⟩)) kc ka ko
   | some i =>
    have hs:=at_some hat
    have hi:i<chains.length:=hs.2
    rw[show findG (idP k2) chains=i from hs.1] at ka
    dsimp only
    by_cases b1:k2=1
    ·rw[if_pos b1]
     exact app_not O (.inr (.inr (.inl ⟨h5,by omega,b1,rfl⟩))) kc ka ko
    rw[if_neg b1]
    have kx:=ownR_fn O rev ever chains c1 c2'
    have kt:=deleteCh_fn O chains (i:Int) ((i:Int)+1) rfl (by omega) (by omega) (by omega)
    rw[O.h List.eraseIdx,Int.toNat_natCast] at kt
    have q:=app_drop (k3:=k3) (k4:=k4) (k5:=k5) (k6:=k6) O kc ko hr h5 b1 (by omega) ka kx kt
    unfold bumpC
    by_cases hmx:rev=maxCount
    ·rw[if_pos hmx];exact q.1 hmx
    ·rw[if_neg hmx];exact q.2 hmx
  rw[if_neg h5]
  exact app_not O (.inr (.inr (.inr ⟨by omega,rfl⟩))) kc ka ko
 ·rw[mayE_no hm] at kc
  rw[if_pos hm]
  have:=app_may O (k1:=k1) (k2:=k2) (k3:=k3) (k4:=k4) (k5:=k5) (k6:=k6) hm kc
  rw[show Cnf.enc O (⟨0,0,[]⟩,(1:Int)).1=[.int .i64 0,.int .i64 0,.sl false 0 false 5 []] by show[PV.int .i64 0,.int .i64 0,.sl false 0 false 5 (O.o (Chns.enc O) [])]=_;rw[O.h];rfl]
  exact this
end Go.Sym
