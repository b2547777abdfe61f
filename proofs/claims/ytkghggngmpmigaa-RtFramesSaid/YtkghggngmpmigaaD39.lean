import Derived.Test.YtkghggngmpmigaaD38
set_option linter.all false
namespace Go.X
open Go Go.Proofs
def MemOK (mem:REnv->RSt->Ans->Bool × RSt) (e:REnv) (n:Nat) (s:RSt):Prop :=
 ∀ i k,FetchOK s.m i k->CandOK i.c->38<=i.q->i.q<=44->∀ s',(mem e s i=(true,s')->Next e s s'/\BaseOK e (n+1) s')/\(mem e s i=(false,s')->Fault e s s'/\BaseOK e n s')
section
variable {e:REnv}{n:Nat} {s s':RSt} (hb:BaseOK e n s) (hn:(n:Int)<1000000000) (D:DecU (w32 s.m)) (h0:s.m.st=0)
include hb
theorem fetch_ok (hp:plB s.m.sz s.m.pl 4=true) (D:DecU (w32 s.m)) (he:(decA (w32 s.m)).err=0):FetchOK s.m (decA (w32 s.m)) s.m.kn':=⟨hb.sz,hb.pl,hp,D,hb.kn,rfl,rfl,he⟩
theorem x0_of (h17:s.m.x 17≠1/\s.m.x 17≠2/\s.m.x 17≠3/\s.m.x 17≠4/\s.m.x 17≠5):s.m.x 17=0\/6<=s.m.x 17:=by
 have:=uB_iff.1 (hb.x 17)
 omega
theorem fin_base {m2:MS}{k:KM}{ret:Bool} (hk:k.OK) (h1:m2.sz=s.m.sz) (h3:∀ j,uB (m2.x j)=true) (h4:ret=true\/m2.pl=s.m.pl):szB (finM s.m m2 k ret).sz=true/\uB (finM s.m m2 k ret).pl=true/\(∀ j,uB ((finM s.m m2 k ret).x j)=true)/\(finM s.m m2 k ret).kn.OK:=by
 cases ret with
 |true=>exact⟨by show szB m2.sz=true;rw[h1];exact hb.sz,uB_wrap _,uB_put (v:=none) h3 0 (fun y h=>by cases h),hk⟩
 |false =>
  refine⟨by show szB m2.sz=true;rw[h1];exact hb.sz,?_,h3,hk⟩
  show uB m2.pl=true
  rw[h4.resolve_left (by simp)];exact hb.pl
include hn D
theorem call_next (hf:FetchOK s.m (decA (w32 s.m)) s.m.kn') (hc:CandOK (decA (w32 s.m)).c) (hq:(decA (w32 s.m)).q=55) :
  (callR e s s.m.kn'=(true,s')->Next e s s'/\BaseOK e (n+1) s')/\(callR e s s.m.kn'=(false,s')->Fault e s s'/\BaseOK e n s'):=by
 have hf:FetchOK s.m ⟨55,(decA (w32 s.m)).c,0⟩ s.m.kn':=by
  have h1:decA (w32 s.m)=⟨55,(decA (w32 s.m)).c,0⟩:=by
   have he:=hf.err
   generalize decA (w32 s.m)=i at *
   obtain⟨q,c,er⟩:=i
   simp only at hq he
   subst hq;subst he;rfl
  rw[<- h1];exact hf
 have hko:=kn_ok hb.kn
 have sv:Stay (s.vin e):=stay_vI
 have so:Stay (vO (bO s.oN) s.oN):=stay_vO
 have ss:Stay (vW (bO s.sN) s.sN):=stay_vW
 unfold callR
 cases h1:(s.m.x 17==1)with
 |true =>
  have h1':s.m.x 17=1:=by simpa using h1
  simp only[cond_true]
  refine⟨fun h=>?_,fun h=>by cases h⟩
  cases h
  obtain⟨q1,q2,q3,q4⟩:=fin_base hb (m2:=s.m) (ret:=true) hko rfl hb.x (.inl rfl)
  refine⟨?_,q1,q2,q3,q4,hb.se,by show s.oN+1<=n+1;have:=hb.out;omega,hb.cap,hb.top,hb.ik⟩
  cases ho:bO s.oN with
  |false =>
   have hz:s.oN=0:=by
    cases hx:s.oN with
    |zero=>rfl
    |succ y=>rw[hx]at ho;cases ho
   have hst:=step_out0 (l:=1) sv ss hf hc rfl (call_out0 (wt:=e.wt) (mk:=s.mark) sv ss h1')
   have hof:outMore (fun _=>0) 0 (IntKind.u8.wrap (s.m.x 10))=outMore s.of s.oN (IntKind.u8.wrap (s.m.x 10))\/True:=.inr trivial
   refine .stO (preS s.m (s.rb e) []) (has0 e s) ?_ ⟨Nat.succ_pos _,rfl,rfl,rfl⟩
   have hrb:s.rb e=rB (s.vin e) (.slice none 0 0) s.mark e.wt (vW (bO s.sN) s.sN):=by unfold RSt.rb;rw[ho];rfl
   rw[hrb]
   have e1:outMore s.of s.oN (IntKind.u8.wrap (s.m.x 10))=outMore (fun _=>0) 0 (IntKind.u8.wrap (s.m.x 10)):=by
    funext j;rw[hz];rfl
   simp only[e1,hz]
   exact hst
  |true =>
   have hst:=step_out1 (l:=s.oN+1) sv ss hf hc rfl (call_out1 (wt:=e.wt) (mk:=s.mark) (oN:=s.oN) (of:=s.of) sv ss h1' (by have:=hb.out;omega))
   refine .stO (preS s.m (s.rb e) [(101,outB s.oN s.of)]) (hasB e s ho) ?_ ⟨Nat.succ_pos _,rfl,rfl,rfl⟩
   have hrb:s.rb e=rB (s.vin e) (.slice (some ⟨101,0,none⟩) s.oN s.oN) s.mark e.wt (vW (bO s.sN) s.sN):=by unfold RSt.rb;rw[ho];rfl
   rw[hrb]
   exact hst
 |false =>
  cases h2:(s.m.x 17==2)with
  |true =>
   have h2':s.m.x 17=2:=by simpa using h2
   simp only[cond_false,cond_true]
   have noin:∀ {m2:MS},Step0 (preS s.m (s.rb e) []) true (finM s.m (inMax s.m) s.m.kn' true) (s.rb e)\/(e.bi=true/\Step0 (preS s.m (s.rb e) [(40,inB e.T e.inp)]) true (finM s.m (inMax s.m) s.m.kn' true) (s.rb e))->Next e s { s with m:=finM s.m (inMax s.m) s.m.kn' true }/\BaseOK e (n+1) { s with m:=finM s.m (inMax s.m) s.m.kn' true }:=by
    intro _ hst
    obtain⟨q1,q2,q3,q4⟩:=fin_base hb (m2:=inMax s.m) (ret:=true) hko rfl (uB_at hb.x rfl) (.inl rfl)
    refine⟨?_,q1,q2,q3,q4,hb.se,by show s.oN<=n+1;have:=hb.out;omega,hb.cap,hb.top,hb.ik⟩
    rcases hst with hst|⟨hbi,hst⟩
    ·exact .st0 _ (has0 e s) hst ⟨rfl,rfl,rfl,rfl⟩
    ·exact .st0 _ (hasI e s hbi) hst ⟨rfl,rfl,rfl,rfl⟩
   cases hbi:e.bi with
   |false =>
    simp only[Bool.false_and,cond_false]
    refine⟨fun h=>?_,fun h=>by cases h⟩
    cases h
    refine noin (m2:=s.m) (.inl ?_)
    have hrb:s.rb e=rB (.slice none 0 0) (vO (bO s.oN) s.oN) s.mark e.wt (vW (bO s.sN) s.sN):=by unfold RSt.rb RSt.vin;rw[hbi];rfl
    rw[hrb]
    exact step_call (m2:=inMax s.m) stay_nil so ss stay_nil hf hc rfl (call_in0 so ss h2')
   |true =>
    have hrb:s.rb e=rB (inS (e.k0+s.ik) (e.L0-s.ik) (e.C0-s.ik)) (vO (bO s.oN) s.oN) s.mark e.wt (vW (bO s.sN) s.sN):=by unfold RSt.rb RSt.vin;rw[hbi];rfl
    have hcap:=hb.cap
    have htop:=hb.top
    have hik:=hb.ik
    cases hlt:Nat.blt s.ik e.L0 with
    |true =>
     have hl:=blt_lt hlt
     simp only[Bool.and_self,cond_true]
     refine⟨fun h=>?_,fun h=>by cases h⟩
     cases h
     obtain⟨q1,q2,q3,q4⟩:=fin_base hb (m2:=inMore s.m (e.inp (e.k0+s.ik))) (ret:=true) hko rfl (uB_at hb.x (uB_wrap _)) (.inl rfl)
     refine⟨?_,q1,q2,q3,q4,hb.se,by show s.oN<=n+1;have:=hb.out;omega,hb.cap,hb.top,by show s.ik+1<=e.L0;omega⟩
     refine .st0 (preS s.m (s.rb e) [(40,inB e.T e.inp)]) (hasI e s hbi) ?_ ⟨rfl,rfl,rfl,rfl⟩
     rw[hrb]
     have hst:=step_calli (m2:=inMore s.m (e.inp (e.k0+s.ik))) (stay_in _ _ _) so ss (stay_in _ _ _) hf hc rfl (call_in1 (m:=s.m) (vout:=vO (bO s.oN) s.oN) (se:=vW (bO s.sN) s.sN) (mk:=s.mark) (wt:=e.wt) (T:=e.T) (k:=e.k0+s.ik) (L:=e.L0-s.ik) (C:=e.C0-s.ik) (inp:=e.inp) so ss h2' (by omega) (by omega) (by omega))
     have e1:RSt.rb e { s with m:=finM s.m (inMore s.m (e.inp (e.k0+s.ik))) s.m.kn' true,ik:=s.ik+1 }=rB (inS (e.k0+s.ik+1) (e.L0-s.ik-1) (e.C0-s.ik-1)) (vO (bO s.oN) s.oN) s.mark e.wt (vW (bO s.sN) s.sN):=by
      unfold RSt.rb RSt.vin
      rw[hbi]
      rfl
     rw[e1]
     exact hst
    |false =>
     have hl:s.ik=e.L0:=by
      have:¬ s.ik<e.L0:=fun h=>by rw[lt_blt h]at hlt;cases hlt
      omega
     simp only[Bool.and_false,cond_false]
     refine⟨fun h=>?_,fun h=>by cases h⟩
     cases h
     refine noin (m2:=s.m) (.inr ⟨hbi,?_⟩)
     rw[hrb,show e.L0-s.ik=0 by omega]
     exact step_calli (m2:=inMax s.m) (stay_in _ _ _) so ss (stay_in _ _ _) hf hc rfl (call_in2 so ss h2')
  |false =>
   simp only[cond_false]
   cases h3:(s.m.x 17==3||(s.m.x 17==4||s.m.x 17==5))with
   |true =>
    simp only[Bool.or_eq_true,beq_iff_eq]at h3
    simp only[cond_true]
    refine⟨fun h=>?_,fun h=>by cases h⟩
    cases h
    obtain⟨q1,q2,q3,q4⟩:=fin_base hb (m2:=endM s.m) (ret:=true) hko rfl hb.x (.inl rfl)
    exact⟨.st0 _ (has0 e s) (step_call (m2:=endM s.m) (mk:=s.mark) (wt:=e.wt) sv so ss sv hf hc rfl (call_end sv so ss h3)) ⟨rfl,rfl,rfl,rfl⟩,q1,q2,q3,q4,hb.se,by show s.oN<=n+1;have:=hb.out;omega,hb.cap,hb.top,hb.ik⟩
   |false =>
    simp only[Bool.or_eq_false_iff,beq_eq_false_iff_ne]at h1 h2 h3
    simp only[cond_false]
    refine⟨fun h=>(by cases h),fun h=>?_⟩
    cases h
    obtain⟨q1,q2,q3,q4⟩:=fin_base hb (m2:=s.m) (ret:=false) hko rfl hb.x (.inr rfl)
    exact⟨⟨_,has0 e s,step_call (m2:=s.m) (mk:=s.mark) (wt:=e.wt) sv so ss sv hf hc rfl (call_no sv so ss (uB_iff.1 (hb.x 17)).1 (x0_of hb ⟨h1,h2,h3.1,h3.2.1,h3.2.2⟩)),rfl,rfl,rfl,rfl⟩,q1,q2,q3,q4,hb.se,hb.out,hb.cap,hb.top,hb.ik⟩
theorem next_of {mem:REnv->RSt->Ans->Bool × RSt} (hm:MemOK mem e n s):(stepG mem e s=(true,s')->Next e s s'/\BaseOK e (n+1) s')/\(stepG mem e s=(false,s')->Fault e s s'/\BaseOK e n s'):=by
 have sv:Stay (s.vin e):=stay_vI
 have so:Stay (vO (bO s.oN) s.oN):=stay_vO
 have ss:Stay (vW (bO s.sN) s.sN):=stay_vW
 unfold stepG
 cases hp:plB s.m.sz s.m.pl 4 with
 |false =>
  refine⟨fun h=>(by cases h),fun h=>?_⟩
  cases h
  exact⟨⟨_,has0 e s,step_no sv so ss (i:=ans0) ⟨hb.sz,hb.pl,.inl ⟨hp,rfl⟩⟩,rfl,rfl,rfl,rfl⟩,hb⟩
 |true =>
  simp only[cond_true]
  cases he:((decA (w32 s.m)).err==0)with
  |false =>
   refine⟨fun h=>(by cases h),fun h=>?_⟩
   cases h
   have he':(decA (w32 s.m)).err≠0:=by simpa using he
   exact⟨⟨_,has0 e s,step_no sv so ss (i:=decA (w32 s.m)) ⟨hb.sz,hb.pl,.inr ⟨hp,D,hb.kn,rfl,he'⟩⟩,rfl,rfl,rfl,rfl⟩,hb⟩
  |true =>
   have he':(decA (w32 s.m)).err=0:=by simpa using he
   obtain⟨hc,hq1,hq2,_,_⟩:=decA_ok he'
   have hf:=fetch_ok hb hp D he'
   simp only[cond_true]
   cases hpl:plainB (decA (w32 s.m)).q with
   |true =>
    simp only[cond_true]
    refine⟨fun h=>?_,fun h=>by cases h⟩
    cases h
    have hf2:FetchOK s.m ⟨(decA (w32 s.m)).q,(decA (w32 s.m)).c,0⟩ s.m.kn':=by
     have h1:decA (w32 s.m)=⟨(decA (w32 s.m)).q,(decA (w32 s.m)).c,0⟩:=by
      generalize decA (w32 s.m)=i at *
      obtain⟨q,c,er⟩:=i
      simp only at he'
      subst he';rfl
     rw[<- h1];exact hf
    refine⟨.st0 _ (has0 e s) (step_plain sv so ss hpl hf2 hc hb.x) ⟨rfl,rfl,rfl,rfl⟩,hb.sz,uB_next hpl _,uB_put hb.x _ (uB_val hb.x hpl _),kn_ok hb.kn,hb.se,by show s.oN<=n+1;have:=hb.out;omega,hb.cap,hb.top,hb.ik⟩
   |false =>
    simp only[cond_false]
    cases h55:((decA (w32 s.m)).q==55)with
    |true =>
     simp only[cond_true]
     exact call_next hb hn D hf hc (by simpa using h55)
    |false =>
     simp only[cond_false]
     have h55':(decA (w32 s.m)).q≠55:=by simpa using h55
     have:¬ plainB (decA (w32 s.m)).q=true:=by rw[hpl];simp
     simp only[plainB,Bool.or_eq_true,Bool.and_eq_true,decide_eq_true_eq]at this
     exact hm _ _ hf hc (by omega) (by omega) s'
end
theorem p84_1 (m:MS) (i C:Nat):execC (lookF FL) noSc 1000 x84 (argTm 0 [Value.slice (some (Addr.mk 90 i none)) 1 C]) (mkH [(90,m.memB)]) 100 (prjK [2] [Ref.id 90])=bif ((i+0).blt m.sz&&true||false)&&true then some (Leaf.mk [some (true,Value.int IntKind.u64 (bits2 BinOp.or IntKind.u64 0 (IntKind.u64.wrap (IntKind.u64.wrap (m.mem (i+0))*1))))] [(90,some (Blk.rows m.sz 1 (fun j ↦ [Value.int IntKind.u8 (m.mem j)]) false false))] Exit.ret 100)else none:=by kernel_rfl
theorem p84_4 (m:MS) (i C:Nat):execC (lookF FL) noSc 1000 x84 (argTm 0 [Value.slice (some (Addr.mk 90 i none)) 4 C]) (mkH [(90,m.memB)]) 100 (prjK [2] [Ref.id 90])=bif ((i+0).blt m.sz&&true||false)&&true then bif ((i+1).blt m.sz&&true||false)&&true then bif ((i+2).blt m.sz&&true||false)&&true then bif ((i+3).blt m.sz&&true||false)&&true then some (Leaf.mk [some (true,Value.int IntKind.u64 (bits2 BinOp.or IntKind.u64 (bits2 BinOp.or IntKind.u64 (bits2 BinOp.or IntKind.u64 (bits2 BinOp.or IntKind.u64 0 (IntKind.u64.wrap (IntKind.u64.wrap (m.mem (i+0))*1))) (IntKind.u64.wrap (IntKind.u64.wrap (m.mem (i+1))*256))) (IntKind.u64.wrap (IntKind.u64.wrap (m.mem (i+2))*65536))) (IntKind.u64.wrap (IntKind.u64.wrap (m.mem (i+3))*16777216))))] [(90,some (Blk.rows m.sz 1 (fun j ↦ [Value.int IntKind.u8 (m.mem j)]) false false))] Exit.ret 100)else none else none else none else none:=by kernel_rfl
theorem p84_8 (m:MS) (i C:Nat):execC (lookF FL) noSc 1000 x84 (argTm 0 [Value.slice (some (Addr.mk 90 i none)) 8 C]) (mkH [(90,m.memB)]) 100 (prjK [2] [Ref.id 90])=bif ((i+0).blt m.sz&&true||false)&&true then bif ((i+1).blt m.sz&&true||false)&&true then bif ((i+2).blt m.sz&&true||false)&&true then bif ((i+3).blt m.sz&&true||false)&&true then bif ((i+4).blt m.sz&&true||false)&&true then bif ((i+5).blt m.sz&&true||false)&&true then bif ((i+6).blt m.sz&&true||false)&&true then bif ((i+7).blt m.sz&&true||false)&&true then some (Leaf.mk [some (true,Value.int IntKind.u64 (bits2 BinOp.or IntKind.u64 (bits2 BinOp.or IntKind.u64 (bits2 BinOp.or IntKind.u64 (bits2 BinOp.or IntKind.u64 (bits2 BinOp.or IntKind.u64 (bits2 BinOp.or IntKind.u64 (bits2 BinOp.or IntKind.u64 (bits2 BinOp.or IntKind.u64 0 (IntKind.u64.wrap (IntKind.u64.wrap (m.mem (i+0))*1))) (IntKind.u64.wrap (IntKind.u64.wrap (m.mem (i+1))*256))) (IntKind.u64.wrap (IntKind.u64.wrap (m.mem (i+2))*65536))) (IntKind.u64.wrap (IntKind.u64.wrap (m.mem (i+3))*16777216))) (IntKind.u64.wrap (IntKind.u64.wrap (m.mem (i+4))*4294967296))) (IntKind.u64.wrap (IntKind.u64.wrap (m.mem (i+5))*1099511627776))) (IntKind.u64.wrap (IntKind.u64.wrap (m.mem (i+6))*281474976710656))) (IntKind.u64.wrap (IntKind.u64.wrap (m.mem (i+7))*72057594037927936))))] [(90,some (Blk.rows m.sz 1 (fun j ↦ [Value.int IntKind.u8 (m.mem j)]) false false))] Exit.ret 100)else none else none else none else none else none else none else none else none:=by kernel_rfl
def num1 (f:Nat->Int) (k:Nat):Int:=bits2 .or .u64 0 (IntKind.u64.wrap (IntKind.u64.wrap (f (k+0))*1))
def num8 (f:Nat->Int) (k:Nat):Int:=bits2 .or .u64 (bits2 .or .u64 (bits2 .or .u64 (bits2 .or .u64 (num4 f k) (IntKind.u64.wrap (IntKind.u64.wrap (f (k+4))*4294967296))) (IntKind.u64.wrap (IntKind.u64.wrap (f (k+5))*1099511627776))) (IntKind.u64.wrap (IntKind.u64.wrap (f (k+6))*281474976710656))) (IntKind.u64.wrap (IntKind.u64.wrap (f (k+7))*72057594037927936))
def numF (n:Nat) (f:Nat->Int) (k:Nat):Int:=match n with
 |1=>num1 f k
 |4=>num4 f k
 |_=>num8 f k
def pre84 (m:MS):List (Nat × Blk):=[(90,m.memB)]
theorem body_exec {f N n0 news K:Nat}{rts:List Rx}{x:XCode}{vs:List Value}{pre upd:Hp}{vv:Value}{F:Fns}{sc:Short} (hF:FnsOK Try.prog F sc) (hf:fnx Try.prog f=some (N,rts,x)) (hlen:vs.length<=N)
  (ks:List Nat) (rs:List Ref){l:Leaf} (he:execC F sc K x (argTm 0 vs) pre n0 (prjK ks rs)=some l) (hfin:finE l.e=true) (s':St) (hl:∀ ρ w hd,LeafTo (envOf Try.prog N n0 pre mixed ρ w hd) ks l s')
  (hsub:SubB s'.h [] (upd++pre)) (hn:s'.n=n0+news) (hr:resV s'.t (upd++pre) rts=some vv):Body Try.prog f vs pre vv upd n0 news :=
 body_of mixed hf hlen fun ρ w hd=>cl_fin.out (xwp_piece (E:=envOf Try.prog N n0 pre mixed ρ w hd) (s:=⟨argTm 0 vs,pre,n0⟩) hF K ks rs he s' (hl ρ w hd) (fin_of hfin hsub hn hr))
def n84 (n:Nat):Prop:=n=1\/n=4\/n=8
theorem p84 (m:MS) (i C:Nat){n:Nat} (hn:n84 n) (hi:i+n<=m.sz):execC (lookF FL) noSc 1000 x84 (argTm 0 [.slice (some ⟨90,i,none⟩) n C]) (mkH [(90,m.memB)]) 100 (prjK [2] [.id 90]) =
  some ⟨[some (true,.int .u64 (numF n m.mem i))],[(90,some m.memB)],.ret,100⟩:=by
 have g:∀ k,k<n->(((i+k).blt m.sz&&true||false)&&true)=true:=fun k hk=>by rw[lt_blt (by omega)];rfl
 rcases hn with rfl|rfl|rfl
 ·rw[p84_1,g 0 (by omega)];rfl
 ·rw[p84_4,g 0 (by omega),g 1 (by omega),g 2 (by omega),g 3 (by omega)];rfl
 ·rw[p84_8,g 0 (by omega),g 1 (by omega),g 2 (by omega),g 3 (by omega),g 4 (by omega),g 5 (by omega),g 6 (by omega),g 7 (by omega)];rfl
theorem b84 (m:MS) (i C:Nat){n:Nat} (hn:n84 n) (hi:i+n<=m.sz):Body Try.prog 65 [.slice (some ⟨90,i,none⟩) n C] (mkH (pre84 m)) (.int .u64 (numF n m.mem i)) [] 100 0 :=
 body_exec FOK fx84 (by simp) [2] [.id 90] (p84 m i C hn hi) rfl ⟨mkT [2] [.int .u64 (numF n m.mem i)],mkH (pre84 m),100⟩ (fun ρ w hd=>⟨_,_,_,rfl,rfl,⟨rfl,trivial⟩,bis_mem,trivial⟩) ⟨rfl,trivial⟩ rfl rfl
theorem c84 (m:MS) (i C:Nat){n:Nat} (hn:n84 n) (hi:i+n<=m.sz) (k:Nat):ADet Try.prog 65 [.slice (some ⟨90,i,none⟩) n C] (mkH (pre84 m)) (.int .u64 (numF n m.mem i)) [] k 0 :=
 adet_of_body (b84 m i C hn hi) πM [] rfl rfl ⟨bis_mem,trivial⟩ rfl rfl ⟨bis_mem,trivial⟩ rfl
def DetG (f:FuncId) (vs:List Value) (pre:List (Nat × Blk)) (v:Value):Prop:=nodupB (pre.map (·.1))=true/\∀ n,ADet Try.prog f vs (mkH pre) v [] n 0
noncomputable def conG (f:FuncId) (vs0:List Value) (pre:List (Nat × Blk)) (v:Value):Con Try.prog where
 f:=f
 run:=fun vs h n=>some (mkH pre,v,[],0,decP (vs=vs0/\Has h pre/\DetG f vs0 pre v))
 ok:=fun vs h n pre' v' upd' news' hx=>by
  simp only[Option.some.injEq,Prod.mk.injEq]at hx
  obtain⟨rfl,rfl,rfl,rfl,hA⟩:=hx
  obtain⟨rfl,hh,hc⟩:=of_decP hA
  exact⟨has_pre hh hc.1,hc.2 n⟩
def ib (op:Int) (c:Cand):Blk:=.var [.int .i64 op,.int .i64 c.rd,.int .i64 c.rs1,.int .i64 c.rs2,.int .i64 c.imm]
def exS (a:Nat) (bs:Bool) (b:Blk):List (Nat × Blk):=bif bs then[(a,b)]else[]
def exK (a:Nat) (bs:Bool):List Nat:=bif bs then[a]else[]
def h76 (op:Int) (c:Cand) (m:MS) (r:Blk) (a:Nat) (bs:Bool) (b:Blk):List (Nat × Blk):=[(103,ib op c),(90,m.memB),(92,m.mB),(100,r)]++exS a bs b
abbrev pI:Value:=.pointer (some ⟨103,0,some 0⟩)
def d76_2:XCode:=match x76_43 with
 | .seq a _=>a
 |_=>.skip
def putX (m:MS) (r v:Int):MS:={ m with x:=fun j=>bif Nat.beq (j+1) (1+r.toNat*1)then v else m.x j,pl:=bif Nat.beq 33 (1+r.toNat*1)then v else m.pl }
def putB (m:MS) (i:Nat) (v:Int):MS:={ m with mem:=fun j=>bif Nat.beq j i then v else m.mem j }
def seRow (m:MS) (a n:Int) (sto:Bool):Nat->List Value:=fun j=>slab [.int .u64 m.pl,.int .u64 a,.int .i64 n,.bool sto] ((0+j)*4) 4
abbrev sl9 (idx l cap:Nat):Value:=.slice (some ⟨90,idx,none⟩) l cap
section
variable (op:Int) (c:Cand) (m:MS) (vin vout se:Value) (mk:Int) (wt bs:Bool) (b:Blk) (n a off rd1:Int) (bv:Value) (ok sto:Bool) (idx cap l:Nat) (v84 v36:Int) (sN k:Nat) (sf:Nat->List Value)
theorem q76_0:walk (lookF FL) noSc 1000 (.region x76_0) (argTm 0 [pR,i18 op c.rd c.rs1 c.rs2 c.imm]) (mkH ([(90,m.memB),(92,m.mB),(100,rB vin vout mk wt se)]++exS 102 bs b)) 103 ⟨[3],[.id 103],[0],[90,92,100]++exK 102 bs⟩ j0_ j0_ =
  some ⟨⟨[some (true,pI)],[(103,some (ib op c))],.normal,104⟩,none⟩:=by cases bs<;>kernel_rfl
theorem q76_1:walk (lookF FL) (scOf [con88]) 1000 (.region x76_1) (mkT [3,0] [pI,pR]) (mkH (h76 op c m (rB vin vout mk wt se) 102 bs b)) 104 ⟨[5],[],[3,0],[103,90,92,100]++exK 102 bs⟩ j0_ j0_ =
  some ⟨⟨[some (true,.int .i64 (sizeF op))],[],.normal,104⟩,none⟩:=by cases bs<;>kernel_rfl
theorem q76_2:walk (lookF FL) (scOf [conG 58 [.int .i64 c.imm] [] (.int .u64 off)]) 1000 d76_2 (mkT [5,3,0] [.int .i64 n,pI,pR]) (mkH (h76 op c m (rB vin vout mk wt se) 102 bs b)) 104 ⟨[6],[],[5,3,0],[103,90,92,100]++exK 102 bs⟩ j0_ j0_ =
  bif (decP ([Value.int .i64 c.imm]=[.int .i64 c.imm]/\True/\DetG 58 [.int .i64 c.imm] [] (.int .u64 off))||false)&&(((1+c.rs1.toNat*1).blt m.cells.length&&rdB m c.rs1&&true||false)&&((intRange c.rs1 32&&true||false)&&true))then
   some ⟨⟨[some (true,.int .u64 (IntKind.u64.wrap (rdX m c.rs1+off)))],[],.normal,104⟩,none⟩else none:=by cases bs<;>kernel_rfl
theorem q76_3:walk (lookF FL) (scOf [conG 64 [pM,.int .u64 a,.int .i64 n] (pre83 m) (.tuple ⟨[bv,.bool ok]⟩)]) 1000 (.region x76_3) (mkT [6,5,3,0] [.int .u64 a,.int .i64 n,pI,pR]) (mkH (h76 op c m (rB vin vout mk wt se) 102 bs b)) 104 ⟨[7,8],[],[6,5,3,0],[103,90,92,100]++exK 102 bs⟩ j0_ j0_ =
  bif (decP ([pM,.int .u64 a,.int .i64 n]=[pM,.int .u64 a,.int .i64 n]/\Has (mkH (pre83 m)) (pre83 m)/\DetG 64 [pM,.int .u64 a,.int .i64 n] (pre83 m) (.tuple ⟨[bv,.bool ok]⟩))||false)&&true then
   some ⟨⟨[some (true,bv),some (true,.bool ok)],[],.normal,104⟩,none⟩else none:=by cases bs<;>kernel_rfl
theorem q76_8t:walk (lookF FL) noSc 1000 x76_8 (mkT [7,8,6,5,3,0] [bv,.bool true,.int .u64 a,.int .i64 n,pI,pR]) (mkH (h76 op c m (rB vin vout mk wt se) 102 bs b)) 104 ⟨[],[],[7,6,5,3,0],[103,90,92,100]++exK 102 bs⟩ ⟨[4],[],[],[90,92,100]++exK 102 bs⟩ j0_ =
  some ⟨⟨[],[],.normal,104⟩,none⟩:=by cases bs<;>kernel_rfl
theorem q76_8f:walk (lookF FL) noSc 1000 x76_8 (mkT [7,8,6,5,3,0] [bv,.bool false,.int .u64 a,.int .i64 n,pI,pR]) (mkH (h76 op c m (rB vin vout mk wt se) 102 bs b)) 104 ⟨[],[],[7,6,5,3,0],[103,90,92,100]++exK 102 bs⟩ ⟨[4],[],[],[90,92,100]++exK 102 bs⟩ j0_ =
  some ⟨⟨[some (true,.bool false)],[],.ret,104⟩,none⟩:=by cases bs<;>kernel_rfl
theorem q76_9:walk (lookF FL) noSc 1000 (.region x76_9) (mkT [7,6,5,3,0] [sl9 idx l cap,.int .u64 a,.int .i64 n,pI,pR]) (mkH (h76 op c m (rB vin vout mk wt se) 102 bs b)) 104 ⟨[9],[],[7,6,5,3,0],[103,90,92,100]++exK 102 bs⟩ j0_ j0_ =
  some ⟨⟨[some (true,.bool (decide (op>=42)))],[],.normal,104⟩,none⟩:=by cases bs<;>kernel_rfl
theorem q76_13f:walk (lookF FL) noSc 1000 x76_13 (mkT [9,7,6,5,3,0] [.bool sto,sl9 idx l cap,.int .u64 a,.int .i64 n,pI,pR]) (mkH (h76 op c m (rB vin vout mk false se) 102 false b)) 104 ⟨[],[.id 100],[9,7,5,3,0],[103,90,92]⟩ j0_ j0_ =
  some ⟨⟨[],[(100,some (rB vin vout mk false se))],.normal,104⟩,none⟩:=by kernel_rfl
theorem q76_13n:walk (lookF FL) noSc 1000 x76_13 (mkT [9,7,6,5,3,0] [.bool sto,sl9 idx l cap,.int .u64 a,.int .i64 n,pI,pR]) (mkH (h76 op c m (rB vin vout mk true (.slice none 0 0)) 102 false b)) 104 ⟨[],[.id 100,.cell 100 5],[9,7,5,3,0],[103,90,92]⟩ j0_ j0_ =
  some ⟨⟨[],[(100,some (rB vin vout mk true (newS 105 1))),(105,some (.rows 1 4 (rowCat (fun _=>[]) 0 0 (seRow m a n sto)) true false))],.normal,106⟩,none⟩:=by kernel_rfl
theorem q76_13b:walk (lookF FL) noSc 1000 x76_13 (mkT [9,7,6,5,3,0] [.bool sto,sl9 idx l cap,.int .u64 a,.int .i64 n,pI,pR]) (mkH (h76 op c m (rB vin vout mk true (newS 102 sN)) 102 true (seB sN sf))) 104 ⟨[],[.id 100,.cell 100 5],[9,7,5,3,0],[103,90,92]⟩ j0_ j0_ =
  bif !(sN+1).ble sN&&true&&(sN.ble sN&&(0+sN).ble sN)&&true&&decide ((sN+1)*37<=1099511627776)&&true&&true then
   some ⟨⟨[],[(100,some (rB vin vout mk true (newS 105 (sN+1)))),(105,some (.rows (sN+1) 4 (rowCat sf 0 sN (seRow m a n sto)) true false))],.normal,106⟩,none⟩else none:=by kernel_rfl
theorem q76_33l:walk (lookF FL) noSc 1000 x76_33 (mkT [9,7,5,3,0] [.bool false,sl9 idx l cap,.int .i64 n,pI,pR]) (mkH (h76 op c m (rB vin vout mk wt se) 104 bs b)) 105 ⟨[],[],[7,5,3,0],[103,90,92,100]++exK 104 bs⟩ j0_ j0_ =
  some ⟨⟨[],[],.normal,105⟩,none⟩:=by cases bs<;>kernel_rfl
theorem q76_33s:walk (lookF FL) noSc 1000 x76_33 (mkT [9,7,5,3,0] [.bool true,sl9 idx l cap,.int .i64 n,pI,pR]) (mkH (h76 op c m (rB vin vout mk wt se) 104 bs b)) 105 j0_ j0_ ⟨[70,69],[.id 103,.id 90,.id 92,.id 100],[7,3,0],exK 104 bs⟩ =
  some ⟨⟨[some (true,.int .i64 ((0:Nat):Int)),some (true,.int .i64 (l:Int))],[(103,some (ib op c)),(90,some m.memB),(92,some m.mB),(100,some (rB vin vout mk wt se))],.normal,105⟩,some (x76_25,[.bl 0,.sq x76_30])⟩:=by cases bs<;>kernel_rfl
theorem q76_25:walk (lookF FL) noSc 1000 x76_25 (mkT [70,69,7,3,0] [.int .i64 (k:Int),.int .i64 (l:Int),sl9 idx l cap,pI,pR]) (mkH (h76 op c m (rB vin vout mk wt se) 104 bs b)) 105 ⟨[70],[.id 103,.id 90,.id 92,.id 100],[69,7,3,0],exK 104 bs⟩ j0_ j0_ =
  bif decide ((k:Int)<(l:Int))then bif (idx+k).blt m.sz&&true&&((intRange (k:Int) l&&true||false)&&((decide (0<=IntKind.i64.wrap (8*(k:Int)))&&true||false)&&(((1+c.rs2.toNat*1).blt m.cells.length&&rdB m c.rs2&&true||false)&&((intRange c.rs2 32&&true||false)&&true))))then
   some ⟨⟨[some (true,.int .i64 (IntKind.i64.wrap ((k:Int)+1)))],[(103,some (ib op c)),(90,some (.rows m.sz 1 (rowSet (fun j=>[.int .u8 (m.mem j)]) (idx+k) [.int .u8 (IntKind.u8.wrap ((rdX m c.rs2).fdiv (2 ^ min (IntKind.i64.wrap (8*(k:Int))).toNat 64)))]) false false)),(92,some m.mB),(100,some (rB vin vout mk wt se))],.normal,105⟩,none⟩else none
  else some ⟨⟨[some (true,.int .i64 (k:Int))],[(103,some (ib op c)),(90,some m.memB),(92,some m.mB),(100,some (rB vin vout mk wt se))],.exit 0,105⟩,none⟩:=by cases bs<;>kernel_rfl
theorem q76_30:walk (lookF FL) noSc 1000 x76_30 (mkT [70,69,7,3,0] [.int .i64 (k:Int),.int .i64 (l:Int),sl9 idx l cap,pI,pR]) (mkH (h76 op c m (rB vin vout mk wt se) 104 bs b)) 105 j0_ ⟨[4],[.id 90,.id 92,.id 100],[],exK 104 bs⟩ j0_ =
  some ⟨⟨[some (true,.bool true)],[(90,some m.memB),(92,some m.mB),(100,some (rB vin vout mk wt se))],.ret,105⟩,none⟩:=by cases bs<;>kernel_rfl
theorem q76_37:walk (lookF FL) (scOf [conG 65 [sl9 idx l cap] [(90,m.memB)] (.int .u64 v84),conG 70 [.int .u64 v84,.int .i64 (IntKind.i64.wrap (8*n)),.bool (op != 39)] [] (.tuple ⟨[.int .u64 v36,.int .i64 0]⟩)]) 1000 x76_37 (mkT [7,5,3,0] [sl9 idx l cap,.int .i64 n,pI,pR]) (mkH (h76 op c m (rB vin vout mk wt se) 104 bs b)) 105 j0_ ⟨[4],[.id 90,.id 92,.id 100],[],exK 104 bs⟩ j0_ =
  bif (1+c.rd.toNat*1).blt m.cells.length&&updOK (1+c.rd.toNat*1) (.int .u64 v36) 0 m.cells&&true&&((intRange c.rd 32&&true||false)&&((decP ([Value.int .u64 v84,.int .i64 (IntKind.i64.wrap (8*n)),.bool (op != 39)]=[.int .u64 v84,.int .i64 (IntKind.i64.wrap (8*n)),.bool (op != 39)]/\True/\DetG 70 [.int .u64 v84,.int .i64 (IntKind.i64.wrap (8*n)),.bool (op != 39)] [] (.tuple ⟨[.int .u64 v36,.int .i64 0]⟩))||false) &&
   ((decP ([sl9 idx l cap]=[sl9 idx l cap]/\Has (mkH [(90,m.memB)]) [(90,m.memB)]/\DetG 65 [sl9 idx l cap] [(90,m.memB)] (.int .u64 v84))||false)&&true)))then
   some ⟨⟨[some (true,.bool true)],[(90,some m.memB),(92,some (putX m c.rd v36).mB),(100,some (rB vin vout mk wt se))],.ret,105⟩,none⟩else none:=by cases bs<;>kernel_rfl
end
def byteX (v:Int) (k:Nat):Int:=IntKind.u8.wrap (v.fdiv (2 ^ min (IntKind.i64.wrap (8*(k:Int))).toNat 64))
def stB (m:MS) (idx:Nat) (v:Int):Nat->MS
 |0=>m
 |k+1=>putB (stB m idx v k) (idx+k) (byteX v k)
theorem stB_same (m:MS) (idx:Nat) (v:Int):∀ k,(stB m idx v k).sz=m.sz/\(stB m idx v k).x=m.x/\(stB m idx v k).pl=m.pl/\(stB m idx v k).st=m.st/\(stB m idx v k).cd=m.cd/\(stB m idx v k).kn=m.kn/\(stB m idx v k).mB=m.mB
 |0=>⟨rfl,rfl,rfl,rfl,rfl,rfl,rfl⟩
 |k+1=>stB_same m idx v k
theorem fokE {E:FEnv} (hP:E.P=Try.prog) (l:List (Con Try.prog)):FnsOK E.P (lookF FL) (scOf l):=by rw[hP];exact fok FOK l
theorem detG_pure {f:FuncId}{vs:List Value}{v:Value} (h:∀ n,ADet Try.prog f vs [] v [] n 0):DetG f vs [] v:=⟨rfl,h⟩
section
variable {op:Int}{c:Cand}{m:MS}{vin vout se:Value}{mk:Int}{wt bs:Bool}{b:Blk}{E:FEnv}{Q:Post}
theorem lf76 (hP:E.P=Try.prog) (hn:E.B.n=103) (h1:Stay vin) (h2:Stay vout) (h3:Stay se) (hb:∀ σ:Nm,BIs Try.prog σ b b){vs:List Value}{ts:List (Option (Bool × Value))}{ks:List Nat}{ex:Exit}{bl:List (Nat × Option Blk)}{n1:Nat}
  (hbl:bl=(103,some (ib op c)) :: (90,some m.memB) :: (92,some m.mB) :: (100,some (rB vin vout mk wt se)) :: (bif bs then[(102,some b)]else[]))
  (hts:∀ x,tsOK (stayOr 103 ((103,103) :: (90,90) :: (92,92) :: (100,100) :: x)) ts vs) :
  LeafTo E ks ⟨ts,bl,ex,n1⟩ ⟨mkT ks vs,mkH (h76 op c m (rB vin vout mk wt se) 102 bs b),104⟩:=by
 subst hbl
 refine⟨vs,h76 op c m (rB vin vout mk wt se) 102 bs b,104,rfl,?_,?_,?_⟩<;>rw[hn]
 ·cases bs<;>rfl
 ·cases bs
  ·exact hts []
  ·exact hts [(102,102)]
 ·rw[hP]
  cases bs
  ·exact⟨rfl,bis_mem,rfl,bis_rB h1 h2 h3 rfl rfl rfl rfl,trivial⟩
  ·exact⟨rfl,bis_mem,rfl,bis_rB h1 h2 h3 rfl rfl rfl rfl,hb _,trivial⟩
theorem pre76 (hP:E.P=Try.prog) (hn:E.B.n=103) (hcl:Cl E.toEnv Q) (h1:Stay vin) (h2:Stay vout) (h3:Stay se) (hb:∀ σ:Nm,BIs Try.prog σ b b) (hs:szB m.sz=true) (hx:∀ j,uB (m.x j)=true) (hc:CandOK c){a n:Int} (ha:a=IntKind.u64.wrap (m.x c.rs1.toNat+ofF c.imm)) (hnn:n=sizeF op){ok:Bool} (hok:plB m.sz a n=ok)
  (hQ:XWP E.toEnv x76_41 Q ⟨mkT [7,8,6,5,3,0] [bif ok then slM m a n else .slice none 0 0,.bool ok,.int .u64 a,.int .i64 n,pI,pR],mkH (h76 op c m (rB vin vout mk wt se) 102 bs b),104⟩) :
  XWP E.toEnv x76_45 Q ⟨argTm 0 [pR,i18 op c.rd c.rs1 c.rs2 c.imm],mkH ([(90,m.memB),(92,m.mB),(100,rB vin vout mk wt se)]++exS 102 bs b),103⟩:=by
 have FO:FnsOK E.P (lookF FL) noSc:=hP▸FOK
 have hn4:nOK n=true:=by
  rw[hnn];unfold sizeF
  cases op==40<;>cases op==43<;>cases op==41<;>cases op==44<;>rfl
 have hua:uB a=true:=by rw[ha];exact uB_of _
 obtain⟨a1,a2,a3,a4⟩:=reg_ok m hc.rs1
 refine xwp_seqW (s:=⟨_,_,_⟩) hcl FO 1000 (q76_0 op c m vin vout se mk wt bs b) rfl ⟨mkT [3,0] [pI,pR],mkH (h76 op c m (rB vin vout mk wt se) 102 bs b),104⟩ (lf76 hP hn h1 h2 h3 hb (by cases bs<;>rfl) fun x=>⟨rfl,rfl,trivial⟩) ?_
 refine xwp_seqW (s:=⟨_,_,_⟩) hcl (fokE hP _) 1000 (q76_1 op c m vin vout se mk wt bs b) rfl ⟨mkT [5,3,0] [.int .i64 n,pI,pR],mkH (h76 op c m (rB vin vout mk wt se) 102 bs b),104⟩ (lf76 hP hn h1 h2 h3 hb (by cases bs<;>rfl) fun x=>⟨by rw[hnn];rfl,rfl,rfl,trivial⟩) ?_
 have e2:=q76_2 op c m vin vout se mk wt bs b n (ofF c.imm)
 rw[decP_true ⟨rfl,trivial,detG_pure fun k=>c73 c.imm k⟩,a1,a2,a3,a4,<- ha]at e2
 simp only[Bool.and_self,Bool.or_false,cond_true]at e2
 show XWP E.toEnv (.seq d76_2 x76_42) Q _
 refine xwp_seqW (s:=⟨_,_,_⟩) hcl (fokE hP _) 1000 e2 rfl ⟨mkT [6,5,3,0] [.int .u64 a,.int .i64 n,pI,pR],mkH (h76 op c m (rB vin vout mk wt se) 102 bs b),104⟩ (lf76 hP hn h1 h2 h3 hb (by cases bs<;>rfl) fun x=>⟨rfl,rfl,rfl,rfl,trivial⟩) ?_
 have d83:DetG 64 [pM,.int .u64 a,.int .i64 n] (pre83 m) (.tuple ⟨[bif ok then slM m a n else .slice none 0 0,.bool ok]⟩):=by
  refine⟨rfl,fun k=>?_⟩
  cases ok with
  |true=>exact c83 m a hs hua hn4 hok k
  |false=>exact c83n m a hs hua hn4 hok k
 have e3:=q76_3 op c m vin vout se mk wt bs b n a (bif ok then slM m a n else .slice none 0 0) ok
 rw[decP_true ⟨rfl,⟨rfl,rfl,trivial⟩,d83⟩]at e3
 simp only[Bool.and_self,Bool.or_false,cond_true]at e3
 refine xwp_seqW (s:=⟨_,_,_⟩) hcl (fokE hP _) 1000 e3 rfl ⟨mkT [7,8,6,5,3,0] [bif ok then slM m a n else .slice none 0 0,.bool ok,.int .u64 a,.int .i64 n,pI,pR],mkH (h76 op c m (rB vin vout mk wt se) 102 bs b),104⟩ (lf76 hP hn h1 h2 h3 hb (by cases bs<;>rfl) fun x=>⟨?_,rfl,rfl,rfl,rfl,rfl,trivial⟩) hQ
 cases ok<;>rfl
end
end Go.X
