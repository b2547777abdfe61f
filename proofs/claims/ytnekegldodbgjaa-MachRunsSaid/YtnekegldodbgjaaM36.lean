import Derived.Test.YtnekegldodbgjaaM35
import Derived.Test.YtnekegldodbgjaaM32
import Derived.Test.YtnekegldodbgjaaM33
set_option linter.all false
namespace Go.X
open Go Go.Proofs
theorem nneg:(shTab.all fun p=>decide (0<=(rowQ p.1).2.2.1)&&decide (0<=(rowQ p.1).2.2.2))=true:=by kernel_rfl
theorem rest_facts {q F o w:Int}{c:Cand} (h:restF q F o w=some c):o=bits2 .and .u32 w 127/\encF q c.rd c.rs1 c.rs2 c.imm=(w,0):=by
 unfold restF at h
 cases h1:(o != bits2 .and .u32 w 127)with
 |true=>rw[h1]at h;cases h
 |false =>
  rw[h1,cond_false]at h
  cases h2:((encF q (candF F w).rd (candF F w).rs1 (candF F w).rs2 (candF F w).imm).2==0&&(encF q (candF F w).rd (candF F w).rs1 (candF F w).rs2 (candF F w).imm).1==w)with
  |false=>rw[h2]at h;cases h
  |true =>
   rw[h2,cond_true]at h
   cases h
   simp only[Bool.and_eq_true,beq_iff_eq]at h2
   exact⟨by simpa using h1,Prod.ext h2.2 h2.1⟩
theorem tells_f3 {F f3 f7:Int}{w:Nat} (h:tells F f3 f7 w) (hf:hasF F=true):e12 w=f3.toNat:=by
 simp only[hasF,Bool.or_eq_true,beq_iff_eq]at hf
 rcases hf with rfl|rfl|rfl|rfl|rfl
 ·exact(h.1 rfl).1
 ·exact h.2.1 (.inl rfl)
 ·exact h.2.1 (.inr (.inl rfl))
 ·exact h.2.1 (.inr (.inr rfl))
 ·exact(h.2.2 rfl).1
theorem same_q {q r w:Int}{c d:Cand} (hq:tabHas shTab (.int .i64 q)=true) (hr:tabHas shTab (.int .i64 r)=true) (h1:dec1 q w=some c) (h2:dec1 r w=some d):q=r:=by
 obtain⟨o1,e1⟩:=rest_facts h1
 obtain⟨o2,e2⟩:=rest_facts h2
 have t1:=tells_of hq e1
 have t2:=tells_of hr e2
 obtain⟨p,hp,rfl,_⟩:=has_mem hq
 obtain⟨p',hp',rfl,_⟩:=has_mem hr
 have n1:=List.all_eq_true.1 nneg p hp
 have n2:=List.all_eq_true.1 nneg p' hp'
 have ha:=List.all_eq_true.1 (List.all_eq_true.1 all_apart p hp) p' hp'
 have ho:(rowQ p.1).2.1=(rowQ p'.1).2.1:=o1.trans o2.symm
 simp only[Bool.and_eq_true,decide_eq_true_eq]at n1 n2
 rw[ho]at ha
 simp only[beq_self_eq_true,Bool.not_true,Bool.or_false,Bool.or_eq_true,beq_iff_eq,Bool.and_eq_true]at ha
 rcases ha with ha|⟨⟨f1,f2⟩,ha⟩
 ·exact ha
 ·exfalso
  have g1:=tells_f3 t1 f1
  have g2:=tells_f3 t2 f2
  have h3:(rowQ p.1).2.2.1=(rowQ p'.1).2.2.1:=by omega
  unfold apart at ha
  rw[ho,h3]at ha
  simp only[beq_self_eq_true,Bool.not_true,Bool.false_or]at ha
  split at ha
  ·rename_i x1 x2
   have a1:=(t1.1 x1).2
   have a2:=(t2.1 x2).2
   have:(rowQ p.1).2.2.2=(rowQ p'.1).2.2.2:=by omega
   rw[this]at ha
   simp at ha
  ·rename_i x1 x2
   have a1:=(t1.2.2 x1).2
   have a2:=(t2.2.2 x2).2
   have:(rowQ p.1).2.2.2.toNat / 2=(rowQ p'.1).2.2.2.toNat / 2:=by omega
   rw[this]at ha
   simp at ha
  ·cases ha
theorem firstD_is {w q:Int}{c:Cand} (h:dec1 q w=some c):∀ {l:List (Int × Value)},(∃ p∈l,p.1=q)->∃ q' c',firstD w l=some (q',c')/\(∃ p∈l,p.1=q')/\dec1 q' w=some c'
 |[],⟨p,hp,_⟩=>by cases hp
 |(k,v) :: l,hp=>by
  unfold firstD
  cases hd:dec1 k w with
  |some x=>exact⟨k,x,rfl,⟨(k,v),.head _,rfl⟩,hd⟩
  |none =>
   obtain⟨p,hp,hk⟩:=hp
   rcases List.mem_cons.1 hp with rfl|hp
   ·simp only at hk;subst hk;rw[hd]at h;cases h
   ·obtain⟨q',c',e,⟨p',hp',hk'⟩,hx⟩:=firstD_is h ⟨p,hp,hk⟩
    exact⟨q',c',e,⟨p',.tail _ hp',hk'⟩,hx⟩
theorem decU_all (w:Int):DecU w:=by
 intro q c hq hc
 obtain⟨p,hp,h1,_⟩:=has_mem hq
 obtain⟨q',c',e,⟨p',hp',hk'⟩,hx⟩:=firstD_is hc ⟨p,hp,h1⟩
 have:=same_q hq (mem_has hp' hk') hc hx
 subst this
 rw[hc]at hx
 cases hx
 exact e
abbrev stepF (e:REnv):RSt->Bool × RSt:=stepG memF e
theorem stepF_sN (e:REnv) (s:RSt):(stepF e s).2.sN<=s.sN+1:=by
 unfold stepF stepG
 cases plB s.m.sz s.m.pl 4 with
 |false=>exact Nat.le_succ _
 |true =>
  simp only[cond_true]
  cases (decA (w32 s.m)).err==0 with
  |false=>exact Nat.le_succ _
  |true =>
   simp only[cond_true]
   cases plainB (decA (w32 s.m)).q with
   |true=>exact Nat.le_succ _
   |false =>
    simp only[cond_false]
    cases (decA (w32 s.m)).q==55 with
    |true =>
     simp only[cond_true]
     unfold callR
     cases s.m.x 17==1<;>cases s.m.x 17==2<;>cases (s.m.x 17==3||(s.m.x 17==4||s.m.x 17==5))<;>cases (e.bi&&Nat.blt s.ik e.L0)<;>exact Nat.le_succ _
    |false =>
     simp only[cond_false]
     unfold memF
     cases plB s.m.sz (atM s.m (decA (w32 s.m)).c) (sizeF (decA (w32 s.m)).q)with
     |false=>exact Nat.le_succ _
     |true=>cases e.wt<;>first|exact Nat.le_succ _|exact Nat.le_refl _
theorem stepF_no (e:REnv) (s:RSt) (h:(stepF e s).1=false):(stepF e s).2.sN=s.sN:=by
 revert h
 unfold stepF stepG
 cases plB s.m.sz s.m.pl 4 with
 |false=>exact fun _=>rfl
 |true =>
  simp only[cond_true]
  cases (decA (w32 s.m)).err==0 with
  |false=>exact fun _=>rfl
  |true =>
   simp only[cond_true]
   cases plainB (decA (w32 s.m)).q with
   |true=>exact fun h=>by cases h
   |false =>
    simp only[cond_false]
    cases (decA (w32 s.m)).q==55 with
    |true =>
     simp only[cond_true]
     unfold callR
     cases s.m.x 17==1<;>cases s.m.x 17==2<;>cases (s.m.x 17==3||(s.m.x 17==4||s.m.x 17==5))<;>cases (e.bi&&Nat.blt s.ik e.L0)<;>first|exact fun _=>rfl|exact fun h=>by cases h
    |false =>
     simp only[cond_false]
     unfold memF
     cases plB s.m.sz (atM s.m (decA (w32 s.m)).c) (sizeF (decA (w32 s.m)).q)with
     |false=>exact fun _=>rfl
     |true=>exact fun h=>by cases h
theorem steps_all (e:REnv){fuel:Int} (hf:fuel<=1000000000):Steps48 e fuel (stepF e) (fun n s=>BaseOK e n s/\s.sN<=n) where
 se n s h:=h.1.se
 go n s s' h hlt h0 hs:=by
  obtain⟨hb,hn⟩:=h
  obtain⟨a,b⟩:=(next_of hb (by omega) (decU_all _) (memF_ok hb (by omega) hn)).1 hs
  refine⟨a,b,?_⟩
  have:=stepF_sN e s
  rw[hs]at this
  simp only at this
  omega
 no n s s' h hlt h0 hs:=by
  obtain⟨hb,hn⟩:=h
  obtain⟨a,b⟩:=(next_of hb (by omega) (decU_all _) (memF_ok hb (by omega) hn)).2 hs
  refine⟨a,b,?_⟩
  have:=stepF_no e s (by rw[hs])
  rw[hs]at this
  simp only at this
  omega
def prog6:List Int:=[147,8,32,0,115,0,0,0,99,74,5,0,147,8,16,0,115,0,0,0,147,130,18,0,111,240,159,254,19,133,2,0,147,8,48,0,115,0,0,0]
def mem6 (j:Nat):Int:=prog6.getD j 0
structure EI (e:REnv) (p a5 a10 a17:Int) (ik oN:Nat) (s:RSt):Prop where
 sz:s.m.sz=64
 mem:s.m.mem=mem6
 pl:s.m.pl=p
 st:s.m.st=0
 x0:s.m.x 0=0
 x5:s.m.x 5=a5
 x10:s.m.x 10=a10
 x17:s.m.x 17=a17
 fik:s.ik=ik
 foN:s.oN=oN
 out:∀ j,j<oN->s.of j=IntKind.u8.wrap (IntKind.u64.wrap (e.inp (e.k0+j)))
section
variable {e:REnv}{p a5 a10 a17:Int}{ik oN:Nat}{s:RSt} (h:EI e p a5 a10 a17 ik oN s)
include h
end
section
variable {e:REnv}{a5 a10 a17:Int}{ik oN:Nat}{s:RSt}
end
structure In6 (e:REnv):Prop where
 byte:∀ j,j<e.L0->0<=e.inp (e.k0+j)/\e.inp (e.k0+j)<256
 nil:e.bi=false->e.L0=0
section
variable {e:REnv} (hin:In6 e) (hL:e.L0<=200)
end
def con20b:Con Try.prog where
 f:=20
 run:=fun vs _ n=>match vs with
  |[.int .u32 w]=>some ([],(decA w).v,[(n,some (decA w).b)],1,decB w)
  |_=>none
 ok:=fun vs h n pre v upd news hx=>by
  split at hx
  ·rename_i w
   simp only[Option.some.injEq,Prod.mk.injEq]at hx
   obtain⟨rfl,rfl,rfl,rfl,hu⟩:=hx
   exact⟨fun id hid=>by simp[fstL]at hid,c20 w (decU_of hu) n⟩
  ·cases hx
abbrev sc21:Short:=scOf [con20b]
theorem FOK21:FnsOK Try.prog (lookF FL) sc21:=fok FOK _
theorem p21:execC (lookF FL) sc21 100000 x21 (argTm 0 []) [] 100 (valK [0])=some [.bool true]:=by kernel_rfl
def c21g:List Value->Option Value
 |[]=>some (.bool true)
 |_=>none
def con21:Con Try.prog:=pureC 21 c21g fun vs v n h=>by
 unfold c21g at h
 split at h
 ·cases h;exact adet_tree FOK21 100000 fx21 (by simp) [0] p21 rfl rfl rfl rfl n
 ·cases h
abbrev sc6:Short:=scOf [con21]
theorem FOK6:FnsOK Try.prog (lookF FL) sc6:=fok FOK _
def exI (bi:Bool) (b:Blk):List (Nat × Blk):=bif bi then[(40,b)]else[]
attribute [local congr] cond_ctx
section
variable (bi:Bool) (k L C T:Nat) (inp:Nat->Int)
end
section
variable (bi:Bool) (k L C T:Nat) (inp:Nat->Int)
end
def Ins.v (i:Ins):Value:=i18 i.op i.rd i.rs1 i.rs2 i.imm
def encV (p:Int × Int):Value:=.tuple ⟨[.int .u32 p.1,.int .i64 p.2]⟩
def EncV (i:Ins) (p:Int × Int):Prop:=∀ n,ADet Try.prog 47 [i.v] [] (encV p) [] n 0
noncomputable def con47 (E:Ins->Int × Int):Con Try.prog where
 f:=47
 run:=fun vs h n=>match vs with
  |[.agg ⟨[.int .i64 a,.int .i64 b,.int .i64 c,.int .i64 d,.int .i64 e]⟩]=>some ([],encV (E ⟨a,b,c,d,e⟩),[],0,decP (EncV ⟨a,b,c,d,e⟩ (E ⟨a,b,c,d,e⟩)))
  |_=>none
 ok:=fun vs h n pre v upd news hx=>by
  split at hx
  ·rename_i a b c d e
   simp only[Option.some.injEq,Prod.mk.injEq]at hx
   obtain⟨rfl,rfl,rfl,rfl,hA⟩:=hx
   exact⟨fun id hid=>by simp[fstL]at hid,of_decP hA n⟩
  ·cases hx
section
variable (E:Ins->Int × Int) (N C T i:Nat) (J:Nat->Ins) (oN:Nat) (of:Nat->Int)
end
abbrev L60 (N C:Nat):Value:=.slice (some ⟨60,0,none⟩) N C
def newM (k L:Nat) (inp:Nat->Int) (sz:Nat):MS:=⟨sz,fun j=>bif Nat.blt j L then inp (k+j)else 0,fun _=>0,0,0,0,⟨0,fun _=>false⟩⟩
def MS.mAt (m:MS) (a b:Nat):Blk:=.var ([.slice (some ⟨a,0,none⟩) m.sz m.sz]++regs m.x++[.int .u64 m.pl,.int .i64 m.st,.int .u8 m.cd,.map (some b)])
def exJ' (bi:Bool):List Nat:=bif bi then[40]else[]
def mem22 (bi:Bool) (k L:Nat) (inp:Nat->Int) (sz:Nat):Blk:=.rows sz 1 (rowPut (fun _=>[.int .u8 0]) 0 (min (bif bi then L else 0) sz) (fun j=>bif bi then[.int .u8 (inp (k+j))]else[])) false false
def old22:Blk:=.map 35 26 0 (fun _=>false) (fun _=>i18 0 0 0 0 0)
theorem p22 (bi:Bool) (k L C T:Nat) (sz:Nat) (inp:Nat->Int) (hL:bi=false->L=0) (h1:L<=sz) (h2:sz<=4194304) (hT:bi=true->k+L<=T) :
  walk (lookF FL) noSc 1000 x22 (argTm 0 [vI bi k L C,.int .i64 (sz:Int)]) (mkH (exI bi (inB T inp))) 100 j0_ ⟨[4,5],[.id 100,.id 101,.id 102],[],exJ' bi⟩ j0_ =
   some ⟨⟨[some (true,.pointer (some ⟨102,0,some 0⟩)),some (true,.int .i64 0)],[(100,some (mem22 bi k L inp sz)),(101,some old22),(102,some ((newM k L inp sz).mAt 100 101))],.ret,103⟩,none⟩:=by
 cases bi with
 |false =>
  have hL0:=hL rfl
  subst hL0
  have e:walk (lookF FL) noSc 1000 x22 (argTm 0 [vI false k 0 C,.int .i64 (sz:Int)]) (mkH (exI false (inB T inp))) 100 j0_ ⟨[4,5],[.id 100,.id 101,.id 102],[],exJ' false⟩ j0_ =
   bif bif decide ((sz:Int)<0)then true else decide ((sz:Int)>4194304)then some ⟨⟨[some (true,.pointer none),some (true,.int .i64 1)],[(100,none),(101,none),(102,none)],.ret,100⟩,none⟩
    else bif decide (0<=(sz:Int))&&decide ((sz:Int)<=(sz:Int))&&decide ((sz:Int)*3<=1099511627776)&&true&&true then bif (0+sz).ble sz&&true&&true then
     some ⟨⟨[some (true,.pointer (some ⟨102,0,some 0⟩)),some (true,.int .i64 0)],[(100,some (mem22 false k 0 inp sz)),(101,some old22),(102,some ((newM k 0 inp sz).mAt 100 101))],.ret,103⟩,none⟩else none else none:=by kernel_rfl
  rw[e]
  simp only[decide_eq_false (show ¬ (sz:Int)<0 by omega),decide_eq_false (show ¬ (sz:Int)>4194304 by omega),decide_eq_true (show 0<=(sz:Int) by omega),decide_eq_true (Int.le_refl (sz:Int)),decide_eq_true (show(sz:Int)*3<=1099511627776 by omega),Nat.zero_add,show sz.ble sz=true by simp]
  rfl
 |true =>
  have e:walk (lookF FL) noSc 1000 x22 (argTm 0 [vI true k L C,.int .i64 (sz:Int)]) (mkH (exI true (inB T inp))) 100 j0_ ⟨[4,5],[.id 100,.id 101,.id 102],[],exJ' true⟩ j0_ =
   bif ((!decide ((sz:Int)<(L:Int))||decide ((sz:Int)<(L:Int)))&&true||false)&&((!decide ((sz:Int)<(L:Int))&&true||!!decide ((sz:Int)<(L:Int)))&&true)then bif bif decide ((sz:Int)<(L:Int))then true else decide ((sz:Int)>4194304)then some ⟨⟨[some (true,.pointer none),some (true,.int .i64 1)],[(100,none),(101,none),(102,none)],.ret,100⟩,none⟩
    else bif decide (0<=(sz:Int))&&decide ((sz:Int)<=(sz:Int))&&decide ((sz:Int)*3<=1099511627776)&&true&&true then bif (k+L).ble T&&true&&(0+sz).ble sz&&true&&true then
     some ⟨⟨[some (true,.pointer (some ⟨102,0,some 0⟩)),some (true,.int .i64 0)],[(100,some (mem22 true k L inp sz)),(101,some old22),(102,some ((newM k L inp sz).mAt 100 101))],.ret,103⟩,none⟩else none else none else none:=by kernel_rfl
  rw[e]
  simp only[decide_eq_false (show ¬ (sz:Int)<(L:Int) by omega),decide_eq_false (show ¬ (sz:Int)>4194304 by omega),decide_eq_true (show 0<=(sz:Int) by omega),decide_eq_true (Int.le_refl (sz:Int)),decide_eq_true (show(sz:Int)*3<=1099511627776 by omega),Nat.zero_add,show sz.ble sz=true by simp,show(k+L).ble T=true by rw[ble_dec];simp;exact hT rfl]
  rfl
theorem bis_mem22 {P:Program}{σ:Nm}{bi:Bool}{k L:Nat}{inp:Nat->Int}{sz:Nat} (hL:bi=false->L=0) (h1:L<=sz):BIs P σ (newM k L inp sz).memB (mem22 bi k L inp sz):=by
 refine⟨rfl,rfl,fun j hj=>?_,by first|exact .inl rfl|exact .inr rfl|exact .inr (.inl rfl),by first|exact .inl rfl|exact .inr rfl⟩
 show rnL _ [.int .u8 (bif Nat.blt j L then inp (k+j)else 0)]=cond (Nat.ble 0 j&&Nat.blt j (0+min (bif bi then L else 0) sz)) (bif bi then[.int .u8 (inp (k+(j-0)))]else[]) [.int .u8 0]
 have h0:Nat.ble 0 j=true:=by simp
 rw[h0,Bool.true_and,Nat.zero_add,Nat.sub_zero]
 cases bi with
 |false =>
  have:=hL rfl
  subst this
  have:Nat.blt j 0=false:=by rw[blt_dec];simp
  rw[this,cond_false,cond_false];simp only[Nat.zero_min,this,cond_false];rfl
 |true =>
  rw[cond_true,Nat.min_eq_left h1,cond_true]
  cases Nat.blt j L<;>rfl
theorem bis_old {P:Program}{σ:Nm}{k L:Nat}{inp:Nat->Int}{sz:Nat}:BIs P σ (newM k L inp sz).kn.blk old22:=⟨rfl,rfl,rfl,fun d q _ _=>⟨rfl,rfl⟩⟩
theorem bis_mAt {P:Program}{σ:Nm}{m:MS} {a b a' b':Nat} (ha:σ a=some a') (hb:σ b=some b'):BIs P σ (m.mAt a b) (m.mAt a' b'):=by
 show ren σ 4 (.slice (some ⟨a,0,none⟩) m.sz m.sz) :: (rnL σ (regs m.x++[.int .u64 m.pl,.int .i64 m.st,.int .u8 m.cd])++[ren σ 4 (.map (some b))])=_
 simp only[ren,renP,ha,hb]
 rfl
def upd22 (m:MS):Hp:=mkH [(100,m.memB),(101,m.kn.blk),(102,m.mAt 100 101)]
theorem b22 {bi:Bool}{k L C T sz:Nat}{inp:Nat->Int} (hL:bi=false->L=0) (h1:L<=sz) (h2:sz<=4194304) (hT:bi=true->k+L<=T) :
  Body Try.prog 22 [vI bi k L C,.int .i64 (sz:Int)] (mkH (exI bi (inB T inp))) (.tuple ⟨[.pointer (some ⟨102,0,some 0⟩),.int .i64 0]⟩) (upd22 (newM k L inp sz)) 100 3:=by
 have e:=p22 bi k L C T sz inp hL h1 h2 hT
 refine body_walk FOK fx22 (by simp) e rfl ⟨mkT [4,5] [.pointer (some ⟨102,0,some 0⟩),.int .i64 0],upd22 (newM k L inp sz)++mkH (exI bi (inB T inp)),103⟩ (fun ρ w hd=>⟨[.pointer (some ⟨102,0,some 0⟩),.int .i64 0],(100,(newM k L inp sz).memB) :: (101,(newM k L inp sz).kn.blk) :: (102,(newM k L inp sz).mAt 100 101) :: exI bi (inB T inp),103,?_,?_,?_,?_⟩) ?_ rfl ?_
 ·cases bi<;>rfl
 ·cases bi<;>rfl
 ·cases bi<;>exact⟨rfl,rfl,trivial⟩
 ·cases bi
  ·exact⟨bis_mem22 hL h1,bis_old,bis_mAt rfl rfl,trivial⟩
  ·exact⟨bis_mem22 hL h1,bis_old,bis_mAt rfl rfl,bis_inB,trivial⟩
 ·cases bi
  ·exact⟨rfl,rfl,rfl,trivial⟩
  ·exact⟨rfl,rfl,rfl,rfl,trivial⟩
 ·cases bi<;>rfl
section
variable (n o:Int) (i N:Nat) (f:Nat->List Value)
end
def v7 (i:Nat):Value:=bif bO i then L60 (2*i) (2*i)else .slice none 0 0
section
variable {N:Nat}{r:Int} (hN:N<=510) (h0:0<=r) (h1:r<32)
end
def vM3 (a:Nat):Value:=.tuple ⟨[.pointer (some ⟨a,0,some 0⟩),.int .i64 0]⟩
theorem c22_at {L C sz:Nat}{inp:Nat->Int} (h1:L<=sz) (h2:sz<=4194304) (b n:Nat) (hbn:b<n){T:Nat} (hT:L<=T){f:Nat->List Value}{o r:Bool} (hf:∀ j,j<T->f j=[.int .u8 (inp j)]) :
  ADet Try.prog 22 [.slice (some ⟨b,0,none⟩) L C,.int .i64 (sz:Int)] [(b,some (.rows T 1 f o r))] (vM3 (n+2)) (mkH [(n,(newM 0 L inp sz).memB),(n+1,(newM 0 L inp sz).kn.blk),(n+2,(newM 0 L inp sz).mAt n (n+1))]) n 3:=by
 have h:ADet Try.prog 22 [.slice (some ⟨b,0,none⟩) L C,.int .i64 (sz:Int)] [(b,some (.rows T 1 f o true))] (vM3 (n+2)) (mkH [(n,(newM 0 L inp sz).memB),(n+1,(newM 0 L inp sz).kn.blk),(n+2,(newM 0 L inp sz).mAt n (n+1))]) n 3:=by
  have ha:∀ {σ:Nm},BIs Try.prog σ (inB T inp) (.rows T 1 f o true):=⟨rfl,rfl,fun j hj=>by rw[hf j hj];rfl,.inr (.inr rfl),.inl rfl⟩
  have ha':∀ {σ:Nm},BIs Try.prog σ (.rows T 1 f o true) (inB T inp):=⟨rfl,rfl,fun j hj=>by rw[hf j hj];rfl,.inr (.inl rfl),.inl rfl⟩
  have hk:∀ {σ:Nm},BIs Try.prog σ (newM 0 L inp sz).kn.blk (newM 0 L inp sz).kn.blk:=bis_kn
  have b1:=beq_ff (show n≠b by omega)
  have b2:=beq_ff (show n+1≠b by omega)
  have b3:=beq_ff (show n+2≠b by omega)
  have b4:=beq_ff (show b≠n by omega)
  have b5:=beq_ff (show b≠n+1 by omega)
  have b6:=beq_ff (show b≠n+2 by omega)
  have c1:=beq_ff (show n≠n+1 by omega)
  have c2:=beq_ff (show n≠n+2 by omega)
  have c3:=beq_ff (show n+1≠n+2 by omega)
  have c4:=beq_ff (show n+1≠n by omega)
  have c5:=beq_ff (show n+2≠n by omega)
  have c6:=beq_ff (show n+2≠n+1 by omega)
  have bn:=beq_tt n
  have bn1:=beq_tt (n+1)
  have bn2:=beq_tt (n+2)
  have bb:=beq_tt b
  have s1:asc ((n,100) :: (n+1,101) :: (n+2,102) :: flip [(40,b)]) n=some 100:=by simp only[asc,bn,cond_true]
  have s2:asc ((n,100) :: (n+1,101) :: (n+2,102) :: flip [(40,b)]) (n+1)=some 101:=by simp only[asc,c1,bn1,cond_true,cond_false]
  have s3:asc ((n,100) :: (n+1,101) :: (n+2,102) :: flip [(40,b)]) (n+2)=some 102:=by simp only[asc,c2,c3,bn2,cond_true,cond_false]
  have s4:asc ((n,100) :: (n+1,101) :: (n+2,102) :: flip [(40,b)]) b=some 40:=by simp only[flip,asc,b1,b2,b3,bb,cond_true,cond_false]
  refine adet_of_body (b22 (bi:=true) (k:=0) (L:=L) (C:=C) (T:=T) (sz:=sz) (inp:=inp) (fun h=>by cases h) h1 h2 (fun _=>by omega)) [(40,b)] [(n,100),(n+1,101),(n+2,102)] ?_ rfl ?_ rfl ?_ ?_ ?_
  ·refine(show((Nat.blt 40 100&&Nat.beq b b&&true)&&((Nat.ble n n&&Nat.blt n (n+3))&&((Nat.ble n (n+1)&&Nat.blt (n+1) (n+3))&&((Nat.ble n (n+2)&&Nat.blt (n+2) (n+3))&&true)))&&true&&true)=true from ?_)
   simp[lt_blt]
  ·refine⟨?_,trivial⟩
   show(match hget [(b,some (Blk.rows T 1 f o true))] b with|some x=>BIs Try.prog (asc [(40,b)]) (inB T inp) x|none=>False)
   simp only[hget,bb,cond_true]
   exact ha
  ·show(.tuple ⟨[renP _ (n+2) 0 (some 0) _,.int .i64 0]⟩:Value)=_
   simp only[List.cons_append,List.nil_append,renP,s3]
  ·simp only[mkH,List.cons_append,List.nil_append,HsOK,natMem,b1,b2,b3,b4,b5,b6,c1,c2,c3,c4,c5,c6,bn,bn1,bn2,Bool.or_false,Bool.false_or]
   rw[s1,s2,s3,s4]
   exact⟨bis_mem,hk,bis_mAt s1 s2,ha',trivial⟩
  ·simp only[mkH,List.cons_append,List.nil_append,namesOf,natMem,b1,b2,b3,b4,b5,b6,c1,c2,c3,c4,c5,c6,bn,bn1,bn2,Bool.or_false,Bool.false_or]
   rw[s1,s2,s3,s4]
   rfl
 cases r with
 |true=>exact h
 |false=>exact adet_demote h (by simp[mkH,fstL];omega) rfl
structure OKM (m:MS):Prop where
 sz:szB m.sz=true
 pl:uB m.pl=true
 x:∀ j,uB (m.x j)=true
 kn:m.kn.OK
section
variable (m0 m:MS) (mk:Int) (tk:Bool)
end
def e0 (wt:Bool):REnv:=⟨false,0,fun _=>0,0,0,0,wt⟩
def inK (k:Int):Bool:=bif decide (k>0)then decide (k<32)else false
def setM (m:MS) (k v:Int):MS:=bif inK k then { m with x:=fun j=>bif Nat.beq (j+1) (1+k.toNat*1)then v else m.x j }else m
theorem p26 (m:MS) (k x:Int):walk (lookF FL) noSc 1000 x26 (argTm 0 [pM,.int .i64 k,.int .u64 x]) (mkH [(92,m.mB)]) 100 ⟨[],[.id 92],[],[]⟩ ⟨[],[.id 92],[],[]⟩ j0_ =
  bif ((decide (k>0)||!decide (k>0))&&true||false)&&((decide (k>0)&&true||!decide (k>0))&&true)then bif inK k then
   bif (1+k.toNat*1).blt m.cells.length&&updOK (1+k.toNat*1) (.int .u64 x) 0 m.cells&&true&&((intRange k 32&&true||false)&&true)then some ⟨⟨[],[(92,some (putX m k x).mB)],.normal,100⟩,none⟩else none
   else some ⟨⟨[],[(92,some m.mB)],.normal,100⟩,none⟩else none:=by kernel_rfl
theorem b26 (m:MS) (k x:Int):Body Try.prog 26 [pM,.int .i64 k,.int .u64 x] (mkH [(92,m.mB)]) (.tuple ⟨[]⟩) (mkH [(92,(setM m k x).mB)]) 100 0:=by
 have e:=p26 m k x
 have g:(((decide (k>0)||!decide (k>0))&&true||false)&&((decide (k>0)&&true||!decide (k>0))&&true))=true:=by cases decide (k>0)<;>rfl
 rw[g,cond_true]at e
 unfold setM
 cases hk:inK k with
 |false =>
  rw[hk,cond_false]at e
  exact body_walk FOK fx26 (by simp) e rfl ⟨mkT [] [],mkH [(92,m.mB)],100⟩ (fun ρ w hd=>⟨_,_,_,rfl,rfl,trivial,rfl,trivial⟩) ⟨rfl,trivial,trivial⟩ rfl rfl
 |true =>
  have hr:inR k:=by
   unfold inK at hk
   unfold inR
   cases h0:decide (k>0)with
   |false=>rw[h0]at hk;cases hk
   |true =>
    rw[h0,cond_true]at hk
    simp only[decide_eq_true_eq]at h0 hk
    omega
  obtain⟨a1,a2,a3,a4⟩:=reg_ok m hr
  rw[hk,cond_true,a1,a3,upd_ok m hr]at e
  simp only[Bool.and_self,Bool.or_false,cond_true]at e
  have hp:(putX m k x).mB=({ m with x:=fun j=>bif Nat.beq (j+1) (1+k.toNat*1)then x else m.x j }:MS).mB:=by
   have:=putX_pl m hr x
   show Blk.var _=Blk.var _
   have h2:(putX m k x)={ m with x:=fun j=>bif Nat.beq (j+1) (1+k.toNat*1)then x else m.x j }:=by
    unfold putX at this ⊢
    simp only at this
    rw[this]
   rw[h2]
  rw[hp]at e
  exact body_walk FOK fx26 (by simp) e rfl ⟨mkT [] [],mkH [(92,({ m with x:=fun j=>bif Nat.beq (j+1) (1+k.toNat*1)then x else m.x j }:MS).mB)],100⟩ (fun ρ w hd=>⟨_,_,_,rfl,rfl,trivial,rfl,trivial⟩) ⟨rfl,trivial,trivial⟩ rfl rfl
abbrev pAt (c:Nat):Value:=.pointer (some ⟨c,0,some 0⟩)
def MS.HA (m:MS) (a b c:Nat):List (Nat × Blk):=[(a,m.memB),(b,m.kn.blk),(c,m.mAt a b)]
theorem bis_resO {P:Program}{σ:Nm}{m:MS}{bo:Bool}{oN:Nat}{n mk:Int}{a b:Nat} (h:bo=true->σ a=some b):BIs P σ (resB m (vOa a bo oN) n mk) (resB m (vOa b bo oN) n mk):=by
 show[_,_,_,ren σ 4 (vOa a bo oN),_,_]=_
 have:ren σ 4 (vOa a bo oN)=vOa b bo oN:=by
  cases bo with
  |false=>rfl
  |true=>simp only[vOa,cond_true,ren,renP,h rfl]
 rw[this];rfl
def vR (br:Bool) (R RC:Nat):Value:=bif br then .slice (some ⟨41,0,none⟩) R RC else .slice none 0 0
def rgB (R:Nat) (rg:Nat->Int):Blk:=.rows R 1 (fun j=>[.int .u64 (rg j)]) false true
def exR (br:Bool) (b:Blk):List (Nat × Blk):=bif br then[(41,b)]else[]
def exIn (bi br:Bool) (L:Nat) (inp:Nat->Int) (R:Nat) (rg:Nat->Int):List (Nat × Blk):=exI bi (inB L inp)++exR br (rgB R rg)
theorem bis_rgB {P:Program}{σ:Nm}{R:Nat}{rg:Nat->Int}:BIs P σ (rgB R rg) (rgB R rg):=bis_rw fun _ _=>rfl
def setsM (m:MS) (rg:Nat->Int):Nat->MS
 |0=>m
 |k+1=>setM (setsM m rg k) (k:Int) (rg k)
section
variable (bi br:Bool) (p q:Int) (L C R RC:Nat) (inp rg:Nat->Int) (m m2:MS) (sz:Nat) (k:Nat) (hb:bi=false->L=0) (hr:br=false->R=0)
include hb hr
end
section
variable {E:FEnv}{Q:Post} (hP:E.P=Try.prog) (hn:E.B.n=50) (hcl:Cl E.toEnv Q){bi br:Bool}{p q:Int}{L C R RC:Nat}{inp rg:Nat->Int} (m m0:MS) (hb:bi=false->L=0) (hr:br=false->R=0) (hR:R<=40)
include hP hn hcl hb hr hR
end
def m8 (L R:Nat) (inp rg:Nat->Int):MS:=setsM (newM 0 L inp (L+256)) rg R
section
variable {E:FEnv}{Q:Post} (hP:E.P=Try.prog) (hn:E.B.n=50) (hcl:Cl E.toEnv Q){bi br:Bool}{p q:Int}{L C R RC:Nat}{inp rg:Nat->Int}{m:MS} (hm:m=m8 L R inp rg) (hb:bi=false->L=0) (hr:br=false->R=0) (hR:R<=40) (hL:L<=2000)
include hP hn hcl hb hr hR hL hm
end
theorem blt_ff {a b:Nat} (h:¬ a<b):Nat.blt a b=false:=by rw[blt_dec];simp;omega
section
variable {o1:Nat}{of1:Nat->Int}{mk1:Int}{n1:Nat}{sf1:Nat->List Value}
end
end Go.X
