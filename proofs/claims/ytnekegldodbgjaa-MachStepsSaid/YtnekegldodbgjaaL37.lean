import Derived.Test.YtnekegldodbgjaaL36
import Derived.Test.YtnekegldodbgjaaL18
set_option linter.all false
namespace Go.X
open Go Go.Proofs
def newM (k L:Nat) (inp:Nat->Int) (sz:Nat):MS:=⟨sz,fun j=>bif Nat.blt j L then inp (k+j)else 0,fun _=>0,0,0,0,⟨0,fun _=>false⟩⟩
def MS.mAt (m:MS) (a b:Nat):Blk:=.var ([.slice (some ⟨a,0,none⟩) m.sz m.sz]++regs m.x++[.int .u64 m.pl,.int .i64 m.st,.int .u8 m.cd,.map (some b)])
def exJ' (bi:Bool):List Nat:=bif bi then[40]else[]
def mem22 (bi:Bool) (k L:Nat) (inp:Nat->Int) (sz:Nat):Blk:=.rows sz 1 (rowPut (fun _=>[.int .u8 0]) 0 (min (bif bi then L else 0) sz) (fun j=>bif bi then[.int .u8 (inp (k+j))]else[])) false false
def old22:Blk:=.map 35 26 0 (fun _=>false) (fun _=>i18 0 0 0 0 0)
theorem p22 (bi:Bool) (k L C T:Nat) (sz:Nat) (inp:Nat->Int) (hL:bi=false->L=0) (h1:L<=sz) (h2:sz<=4194304) (hT:bi=true->k+L<=T) :
  walk (lookF FL) noSc 1000 x22 (argTm 0 [vI bi k L C,.int .i64 (sz:Int)]) (mkH (exI bi (inB T inp))) 100 j0_ ⟨[4,5],[.id 100,.id 101,.id 102],[],exJ' bi⟩ j0_ =
   some ⟨⟨[some (true,.pointer (some ⟨102,0,some 0⟩)),some (true,.int .i64 0)],[(100,some (mem22 bi k L inp sz)),(101,some old22),(102,some ((newM k L inp sz).mAt 100 101))],.ret,103⟩,none⟩:=by
 cases bi with
 |false =>
  have hL0:=hL rfl
  subst hL0
  have e:walk (lookF FL) noSc 1000 x22 (argTm 0 [vI false k 0 C,.int .i64 (sz:Int)]) (mkH (exI false (inB T inp))) 100 j0_ ⟨[4,5],[.id 100,.id 101,.id 102],[],exJ' false⟩ j0_ =
   bif bif decide ((sz:Int)<0)then true else decide ((sz:Int)>4194304)then some ⟨⟨[some (true,.pointer none),some (true,.int .i64 1)],[(100,none),(101,none),(102,none)],.ret,100⟩,none⟩
    else bif decide (0<=(sz:Int))&&decide ((sz:Int)<=(sz:Int))&&decide ((sz:Int)*3<=1099511627776)&&true&&true then bif (0+sz).ble sz&&true&&true then
     some ⟨⟨[some (true,.pointer (some ⟨102,0,some 0⟩)),some (true,.int .i64 0)],[(100,some (mem22 false k 0 inp sz)),(101,some old22),(102,some ((newM k 0 inp sz).mAt 100 101))],.ret,103⟩,none⟩else none else none:=by kernel_rfl
  rw[e]
  simp only[decide_eq_false (show ¬ (sz:Int)<0 by omega),decide_eq_false (show ¬ (sz:Int)>4194304 by omega),decide_eq_true (show 0<=(sz:Int) by omega),decide_eq_true (Int.le_refl (sz:Int)),decide_eq_true (show(sz:Int)*3<=1099511627776 by omega),Nat.zero_add,show sz.ble sz=true by simp]
  rfl
 |true =>
  have e:walk (lookF FL) noSc 1000 x22 (argTm 0 [vI true k L C,.int .i64 (sz:Int)]) (mkH (exI true (inB T inp))) 100 j0_ ⟨[4,5],[.id 100,.id 101,.id 102],[],exJ' true⟩ j0_ =
   bif ((!decide ((sz:Int)<(L:Int))||decide ((sz:Int)<(L:Int)))&&true||false)&&((!decide ((sz:Int)<(L:Int))&&true||!!decide ((sz:Int)<(L:Int)))&&true)then bif bif decide ((sz:Int)<(L:Int))then true else decide ((sz:Int)>4194304)then some ⟨⟨[some (true,.pointer none),some (true,.int .i64 1)],[(100,none),(101,none),(102,none)],.ret,100⟩,none⟩
    else bif decide (0<=(sz:Int))&&decide ((sz:Int)<=(sz:Int))&&decide ((sz:Int)*3<=1099511627776)&&true&&true then bif (k+L).ble T&&true&&(0+sz).ble sz&&true&&true then
     some ⟨⟨[some (true,.pointer (some ⟨102,0,some 0⟩)),some (true,.int .i64 0)],[(100,some (mem22 true k L inp sz)),(101,some old22),(102,some ((newM k L inp sz).mAt 100 101))],.ret,103⟩,none⟩else none else none else none:=by kernel_rfl
  rw[e]
  simp only[decide_eq_false (show ¬ (sz:Int)<(L:Int) by omega),decide_eq_false (show ¬ (sz:Int)>4194304 by omega),decide_eq_true (show 0<=(sz:Int) by omega),decide_eq_true (Int.le_refl (sz:Int)),decide_eq_true (show(sz:Int)*3<=1099511627776 by omega),Nat.zero_add,show sz.ble sz=true by simp,show(k+L).ble T=true by rw[ble_dec];simp;exact hT rfl]
  rfl
theorem bis_mem22 {P:Program}{σ:Nm}{bi:Bool}{k L:Nat}{inp:Nat->Int}{sz:Nat} (hL:bi=false->L=0) (h1:L<=sz):BIs P σ (newM k L inp sz).memB (mem22 bi k L inp sz):=by
 refine⟨rfl,rfl,fun j hj=>?_,by first|exact .inl rfl|exact .inr rfl|exact .inr (.inl rfl),by first|exact .inl rfl|exact .inr rfl⟩
 show rnL _ [.int .u8 (bif Nat.blt j L then inp (k+j)else 0)]=cond (Nat.ble 0 j&&Nat.blt j (0+min (bif bi then L else 0) sz)) (bif bi then[.int .u8 (inp (k+(j-0)))]else[]) [.int .u8 0]
 have h0:Nat.ble 0 j=true:=by simp
 rw[h0,Bool.true_and,Nat.zero_add,Nat.sub_zero]
 cases bi with
 |false =>
  have:=hL rfl
  subst this
  have:Nat.blt j 0=false:=by rw[blt_dec];simp
  rw[this,cond_false,cond_false];simp only[Nat.zero_min,this,cond_false];rfl
 |true =>
  rw[cond_true,Nat.min_eq_left h1,cond_true]
  cases Nat.blt j L<;>rfl
theorem bis_old {P:Program}{σ:Nm}{k L:Nat}{inp:Nat->Int}{sz:Nat}:BIs P σ (newM k L inp sz).kn.blk old22:=⟨rfl,rfl,rfl,fun d q _ _=>⟨rfl,rfl⟩⟩
theorem bis_mAt {P:Program}{σ:Nm}{m:MS} {a b a' b':Nat} (ha:σ a=some a') (hb:σ b=some b'):BIs P σ (m.mAt a b) (m.mAt a' b'):=by
 show ren σ 4 (.slice (some ⟨a,0,none⟩) m.sz m.sz) :: (rnL σ (regs m.x++[.int .u64 m.pl,.int .i64 m.st,.int .u8 m.cd])++[ren σ 4 (.map (some b))])=_
 simp only[ren,renP,ha,hb]
 rfl
def upd22 (m:MS):Hp:=mkH [(100,m.memB),(101,m.kn.blk),(102,m.mAt 100 101)]
theorem b22 {bi:Bool}{k L C T sz:Nat}{inp:Nat->Int} (hL:bi=false->L=0) (h1:L<=sz) (h2:sz<=4194304) (hT:bi=true->k+L<=T) :
  Body Try.prog 22 [vI bi k L C,.int .i64 (sz:Int)] (mkH (exI bi (inB T inp))) (.tuple ⟨[.pointer (some ⟨102,0,some 0⟩),.int .i64 0]⟩) (upd22 (newM k L inp sz)) 100 3:=by
 have e:=p22 bi k L C T sz inp hL h1 h2 hT
 refine body_walk FOK fx22 (by simp) e rfl ⟨mkT [4,5] [.pointer (some ⟨102,0,some 0⟩),.int .i64 0],upd22 (newM k L inp sz)++mkH (exI bi (inB T inp)),103⟩ (fun ρ w hd=>⟨[.pointer (some ⟨102,0,some 0⟩),.int .i64 0],(100,(newM k L inp sz).memB) :: (101,(newM k L inp sz).kn.blk) :: (102,(newM k L inp sz).mAt 100 101) :: exI bi (inB T inp),103,?_,?_,?_,?_⟩) ?_ rfl ?_
 ·cases bi<;>rfl
 ·cases bi<;>rfl
 ·cases bi<;>exact⟨rfl,rfl,trivial⟩
 ·cases bi
  ·exact⟨bis_mem22 hL h1,bis_old,bis_mAt rfl rfl,trivial⟩
  ·exact⟨bis_mem22 hL h1,bis_old,bis_mAt rfl rfl,bis_inB,trivial⟩
 ·cases bi
  ·exact⟨rfl,rfl,rfl,trivial⟩
  ·exact⟨rfl,rfl,rfl,rfl,trivial⟩
 ·cases bi<;>rfl
theorem byS_all {E:Ins->Int × Int}{J:Nat->Ins}:∀ {N:Nat},(∀ i,i<N->(E (J i)).2=0)->(byS E J N).1=4*N/\∀ q t,q<N->t<4->(byS E J N).2 (4*q+t)=byteOf (E (J q)).1 t
 |0,_=>⟨rfl,fun q t h=>absurd h (Nat.not_lt_zero _)⟩
 |N+1,h=>by
  obtain⟨h1,h2⟩:=byS_all (N:=N) fun i hi=>h i (by omega)
  have h0:((E (J N)).2==0)=true:=by rw[h N (by omega)];rfl
  rw[byS,h0,cond_true]
  refine⟨by simp only;omega,fun q t hq ht=>?_⟩
  show(bif Nat.blt (4*q+t) (byS E J N).1 then(byS E J N).2 (4*q+t)else byteOf (E (J N)).1 (4*q+t-(byS E J N).1))=_
  rw[h1]
  by_cases hlt:q<N
  ·rw[lt_blt (show 4*q+t<4*N by omega),cond_true]
   exact h2 q t hlt ht
  ·have:q=N:=by omega
   subst this
   have hb:Nat.blt (4*q+t) (4*q)=false:=by rw[blt_dec];simp
   rw[hb,cond_false,show 4*q+t-4*q=t by omega]
section
variable (n o:Int) (i N:Nat) (f:Nat->List Value)
end
def v7 (i:Nat):Value:=bif bO i then L60 (2*i) (2*i)else .slice none 0 0
section
variable {N:Nat}{r:Int} (hN:N<=510) (h0:0<=r) (h1:r<32)
end
def vM3 (a:Nat):Value:=.tuple ⟨[.pointer (some ⟨a,0,some 0⟩),.int .i64 0]⟩
theorem c22_at {L C sz:Nat}{inp:Nat->Int} (h1:L<=sz) (h2:sz<=4194304) (b n:Nat) (hbn:b<n){T:Nat} (hT:L<=T){f:Nat->List Value}{o r:Bool} (hf:∀ j,j<T->f j=[.int .u8 (inp j)]) :
  ADet Try.prog 22 [.slice (some ⟨b,0,none⟩) L C,.int .i64 (sz:Int)] [(b,some (.rows T 1 f o r))] (vM3 (n+2)) (mkH [(n,(newM 0 L inp sz).memB),(n+1,(newM 0 L inp sz).kn.blk),(n+2,(newM 0 L inp sz).mAt n (n+1))]) n 3:=by
 have h:ADet Try.prog 22 [.slice (some ⟨b,0,none⟩) L C,.int .i64 (sz:Int)] [(b,some (.rows T 1 f o true))] (vM3 (n+2)) (mkH [(n,(newM 0 L inp sz).memB),(n+1,(newM 0 L inp sz).kn.blk),(n+2,(newM 0 L inp sz).mAt n (n+1))]) n 3:=by
  have ha:∀ {σ:Nm},BIs Try.prog σ (inB T inp) (.rows T 1 f o true):=⟨rfl,rfl,fun j hj=>by rw[hf j hj];rfl,.inr (.inr rfl),.inl rfl⟩
  have ha':∀ {σ:Nm},BIs Try.prog σ (.rows T 1 f o true) (inB T inp):=⟨rfl,rfl,fun j hj=>by rw[hf j hj];rfl,.inr (.inl rfl),.inl rfl⟩
  have hk:∀ {σ:Nm},BIs Try.prog σ (newM 0 L inp sz).kn.blk (newM 0 L inp sz).kn.blk:=bis_kn
  have b1:=beq_ff (show n≠b by omega)
  have b2:=beq_ff (show n+1≠b by omega)
  have b3:=beq_ff (show n+2≠b by omega)
  have b4:=beq_ff (show b≠n by omega)
  have b5:=beq_ff (show b≠n+1 by omega)
  have b6:=beq_ff (show b≠n+2 by omega)
  have c1:=beq_ff (show n≠n+1 by omega)
  have c2:=beq_ff (show n≠n+2 by omega)
  have c3:=beq_ff (show n+1≠n+2 by omega)
  have c4:=beq_ff (show n+1≠n by omega)
  have c5:=beq_ff (show n+2≠n by omega)
  have c6:=beq_ff (show n+2≠n+1 by omega)
  have bn:=beq_tt n
  have bn1:=beq_tt (n+1)
  have bn2:=beq_tt (n+2)
  have bb:=beq_tt b
  have s1:asc ((n,100) :: (n+1,101) :: (n+2,102) :: flip [(40,b)]) n=some 100:=by simp only[asc,bn,cond_true]
  have s2:asc ((n,100) :: (n+1,101) :: (n+2,102) :: flip [(40,b)]) (n+1)=some 101:=by simp only[asc,c1,bn1,cond_true,cond_false]
  have s3:asc ((n,100) :: (n+1,101) :: (n+2,102) :: flip [(40,b)]) (n+2)=some 102:=by simp only[asc,c2,c3,bn2,cond_true,cond_false]
  have s4:asc ((n,100) :: (n+1,101) :: (n+2,102) :: flip [(40,b)]) b=some 40:=by simp only[flip,asc,b1,b2,b3,bb,cond_true,cond_false]
  refine adet_of_body (b22 (bi:=true) (k:=0) (L:=L) (C:=C) (T:=T) (sz:=sz) (inp:=inp) (fun h=>by cases h) h1 h2 (fun _=>by omega)) [(40,b)] [(n,100),(n+1,101),(n+2,102)] ?_ rfl ?_ rfl ?_ ?_ ?_
  ·refine(show((Nat.blt 40 100&&Nat.beq b b&&true)&&((Nat.ble n n&&Nat.blt n (n+3))&&((Nat.ble n (n+1)&&Nat.blt (n+1) (n+3))&&((Nat.ble n (n+2)&&Nat.blt (n+2) (n+3))&&true)))&&true&&true)=true from ?_)
   simp[lt_blt]
  ·refine⟨?_,trivial⟩
   show(match hget [(b,some (Blk.rows T 1 f o true))] b with|some x=>BIs Try.prog (asc [(40,b)]) (inB T inp) x|none=>False)
   simp only[hget,bb,cond_true]
   exact ha
  ·show(.tuple ⟨[renP _ (n+2) 0 (some 0) _,.int .i64 0]⟩:Value)=_
   simp only[List.cons_append,List.nil_append,renP,s3]
  ·simp only[mkH,List.cons_append,List.nil_append,HsOK,natMem,b1,b2,b3,b4,b5,b6,c1,c2,c3,c4,c5,c6,bn,bn1,bn2,Bool.or_false,Bool.false_or]
   rw[s1,s2,s3,s4]
   exact⟨bis_mem,hk,bis_mAt s1 s2,ha',trivial⟩
  ·simp only[mkH,List.cons_append,List.nil_append,namesOf,natMem,b1,b2,b3,b4,b5,b6,c1,c2,c3,c4,c5,c6,bn,bn1,bn2,Bool.or_false,Bool.false_or]
   rw[s1,s2,s3,s4]
   rfl
 cases r with
 |true=>exact h
 |false=>exact adet_demote h (by simp[mkH,fstL];omega) rfl
structure OKM (m:MS):Prop where
 sz:szB m.sz=true
 pl:uB m.pl=true
 x:∀ j,uB (m.x j)=true
 kn:m.kn.OK
section
variable (m0 m:MS) (mk:Int) (tk:Bool)
end
def e0 (wt:Bool):REnv:=⟨false,0,fun _=>0,0,0,0,wt⟩
def inK (k:Int):Bool:=bif decide (k>0)then decide (k<32)else false
def setM (m:MS) (k v:Int):MS:=bif inK k then { m with x:=fun j=>bif Nat.beq (j+1) (1+k.toNat*1)then v else m.x j }else m
theorem p26 (m:MS) (k x:Int):walk (lookF FL) noSc 1000 x26 (argTm 0 [pM,.int .i64 k,.int .u64 x]) (mkH [(92,m.mB)]) 100 ⟨[],[.id 92],[],[]⟩ ⟨[],[.id 92],[],[]⟩ j0_ =
  bif ((decide (k>0)||!decide (k>0))&&true||false)&&((decide (k>0)&&true||!decide (k>0))&&true)then bif inK k then
   bif (1+k.toNat*1).blt m.cells.length&&updOK (1+k.toNat*1) (.int .u64 x) 0 m.cells&&true&&((intRange k 32&&true||false)&&true)then some ⟨⟨[],[(92,some (putX m k x).mB)],.normal,100⟩,none⟩else none
   else some ⟨⟨[],[(92,some m.mB)],.normal,100⟩,none⟩else none:=by kernel_rfl
theorem b26 (m:MS) (k x:Int):Body Try.prog 26 [pM,.int .i64 k,.int .u64 x] (mkH [(92,m.mB)]) (.tuple ⟨[]⟩) (mkH [(92,(setM m k x).mB)]) 100 0:=by
 have e:=p26 m k x
 have g:(((decide (k>0)||!decide (k>0))&&true||false)&&((decide (k>0)&&true||!decide (k>0))&&true))=true:=by cases decide (k>0)<;>rfl
 rw[g,cond_true]at e
 unfold setM
 cases hk:inK k with
 |false =>
  rw[hk,cond_false]at e
  exact body_walk FOK fx26 (by simp) e rfl ⟨mkT [] [],mkH [(92,m.mB)],100⟩ (fun ρ w hd=>⟨_,_,_,rfl,rfl,trivial,rfl,trivial⟩) ⟨rfl,trivial,trivial⟩ rfl rfl
 |true =>
  have hr:inR k:=by
   unfold inK at hk
   unfold inR
   cases h0:decide (k>0)with
   |false=>rw[h0]at hk;cases hk
   |true =>
    rw[h0,cond_true]at hk
    simp only[decide_eq_true_eq]at h0 hk
    omega
  obtain⟨a1,a2,a3,a4⟩:=reg_ok m hr
  rw[hk,cond_true,a1,a3,upd_ok m hr]at e
  simp only[Bool.and_self,Bool.or_false,cond_true]at e
  have hp:(putX m k x).mB=({ m with x:=fun j=>bif Nat.beq (j+1) (1+k.toNat*1)then x else m.x j }:MS).mB:=by
   have:=putX_pl m hr x
   show Blk.var _=Blk.var _
   have h2:(putX m k x)={ m with x:=fun j=>bif Nat.beq (j+1) (1+k.toNat*1)then x else m.x j }:=by
    unfold putX at this ⊢
    simp only at this
    rw[this]
   rw[h2]
  rw[hp]at e
  exact body_walk FOK fx26 (by simp) e rfl ⟨mkT [] [],mkH [(92,({ m with x:=fun j=>bif Nat.beq (j+1) (1+k.toNat*1)then x else m.x j }:MS).mB)],100⟩ (fun ρ w hd=>⟨_,_,_,rfl,rfl,trivial,rfl,trivial⟩) ⟨rfl,trivial,trivial⟩ rfl rfl
abbrev pAt (c:Nat):Value:=.pointer (some ⟨c,0,some 0⟩)
def MS.HA (m:MS) (a b c:Nat):List (Nat × Blk):=[(a,m.memB),(b,m.kn.blk),(c,m.mAt a b)]
theorem bis_resO {P:Program}{σ:Nm}{m:MS}{bo:Bool}{oN:Nat}{n mk:Int}{a b:Nat} (h:bo=true->σ a=some b):BIs P σ (resB m (vOa a bo oN) n mk) (resB m (vOa b bo oN) n mk):=by
 show[_,_,_,ren σ 4 (vOa a bo oN),_,_]=_
 have:ren σ 4 (vOa a bo oN)=vOa b bo oN:=by
  cases bo with
  |false=>rfl
  |true=>simp only[vOa,cond_true,ren,renP,h rfl]
 rw[this];rfl
def vR (br:Bool) (R RC:Nat):Value:=bif br then .slice (some ⟨41,0,none⟩) R RC else .slice none 0 0
def rgB (R:Nat) (rg:Nat->Int):Blk:=.rows R 1 (fun j=>[.int .u64 (rg j)]) false true
def exR (br:Bool) (b:Blk):List (Nat × Blk):=bif br then[(41,b)]else[]
def exIn (bi br:Bool) (L:Nat) (inp:Nat->Int) (R:Nat) (rg:Nat->Int):List (Nat × Blk):=exI bi (inB L inp)++exR br (rgB R rg)
theorem bis_rgB {P:Program}{σ:Nm}{R:Nat}{rg:Nat->Int}:BIs P σ (rgB R rg) (rgB R rg):=bis_rw fun _ _=>rfl
def setsM (m:MS) (rg:Nat->Int):Nat->MS
 |0=>m
 |k+1=>setM (setsM m rg k) (k:Int) (rg k)
section
variable (bi br:Bool) (p q:Int) (L C R RC:Nat) (inp rg:Nat->Int) (m m2:MS) (sz:Nat) (k:Nat) (hb:bi=false->L=0) (hr:br=false->R=0)
include hb hr
end
section
variable {E:FEnv}{Q:Post} (hP:E.P=Try.prog) (hn:E.B.n=50) (hcl:Cl E.toEnv Q){bi br:Bool}{p q:Int}{L C R RC:Nat}{inp rg:Nat->Int} (m m0:MS) (hb:bi=false->L=0) (hr:br=false->R=0) (hR:R<=40)
include hP hn hcl hb hr hR
end
def m8 (L R:Nat) (inp rg:Nat->Int):MS:=setsM (newM 0 L inp (L+256)) rg R
section
variable {E:FEnv}{Q:Post} (hP:E.P=Try.prog) (hn:E.B.n=50) (hcl:Cl E.toEnv Q){bi br:Bool}{p q:Int}{L C R RC:Nat}{inp rg:Nat->Int}{m:MS} (hm:m=m8 L R inp rg) (hb:bi=false->L=0) (hr:br=false->R=0) (hR:R<=40) (hL:L<=2000)
include hP hn hcl hb hr hR hL hm
end
theorem blt_ff {a b:Nat} (h:¬ a<b):Nat.blt a b=false:=by rw[blt_dec];simp;omega
section
variable {o1:Nat}{of1:Nat->Int}{mk1:Int}{n1:Nat}{sf1:Nat->List Value}
end
def resA (st cd:Int) (v:Value) (n mk:Int):Value:=.agg ⟨[.int .i64 st,.int .u8 cd,.int .i64 0,v,.int .i64 n,.int .i64 mk]⟩
def exO (a:Nat) (bo:Bool) (b:Blk):List (Nat × Blk):=bif bo then[(a,b)]else[]
def seQ (f:Nat->List Value):Nat->List Value:=fun j=>[.int .u64 (asI ((f j).getD 0 undefd)),.int .u64 (asI ((f j).getD 1 undefd)),.int .i64 (asI ((f j).getD 2 undefd)),.bool (asB ((f j).getD 3 undefd))]
def strO (oN:Nat) (of:Nat->Int):List UInt8:=(ByteArray.mk (List.map (fun j=>u8Of [Value.int IntKind.u8 (of (0+j))]) (List.range oN)).toArray).toList
def okO (oN:Nat) (of:Nat->Int):Bool:=(0+oN).ble oN&&true&&(List.range oN).all fun j=>isU8 [Value.int IntKind.u8 (of (0+j))]
theorem okO_true (oN:Nat) (of:Nat->Int):okO oN of=true:=by
 unfold okO
 rw[Nat.zero_add,show oN.ble oN=true by simp,show((List.range oN).all fun j=>isU8 [Value.int IntKind.u8 (of (0+j))])=true from List.all_eq_true.2 fun _ _=>rfl];rfl
theorem strO_congr {oN:Nat}{of of2:Nat->Int} (h:∀ j,j<oN->of j=of2 j):strO oN of=strO oN of2:=by
 unfold strO
 have:List.map (fun j=>u8Of [Value.int IntKind.u8 (of (0+j))]) (List.range oN)=List.map (fun j=>u8Of [Value.int IntKind.u8 (of2 (0+j))]) (List.range oN):=List.map_congr_left fun j hj=>by rw[Nat.zero_add,h j (List.mem_range.1 hj)]
 rw[this]
def c28t (a b c d e u w:Bool):Bool:=(((bif bif bif bif a then b else false then true else false then c else false then d else false)||!bif bif bif bif a then b else false then true else false then c else false then d else false)&&true||false)&&(((bif bif bif bif a then b else false then true else false then c else false then d else false)&&((bif bif bif bif a then b else false then true else false then c else false then d else false)&&true)||!bif bif bif bif a then b else false then true else false then c else false then d else false)&&(((bif bif bif bif a then b else false then true else false then c else false then d else false)&&true||!bif bif bif bif a then b else false then true else false then c else false then d else false)&&(((bif bif bif bif a then b else false then true else false then c else false then d else false)&&true||!bif bif bif bif a then b else false then true else false then c else false then d else false)&&((((bif bif bif a then b else false then true else false then c else false)||!bif bif bif a then b else false then true else false then c else false)&&true||false)&&(((bif bif bif a then b else false then true else false then c else false)&&((bif bif bif a then b else false then true else false then c else false)&&true)||!bif bif bif a then b else false then true else false then c else false)&&(((bif bif bif a then b else false then true else false then c else false)&&true||!bif bif bif a then b else false then true else false then c else false)&&(((bif bif bif a then b else false then true else false then c else false)&&true||!bif bif bif a then b else false then true else false then c else false)&&((((bif bif a then b else false then true else false)||!bif bif a then b else false then true else false)&&true||false)&&(((bif bif a then b else false then true else false)&&((bif bif a then b else false then true else false)&&true)||!bif bif a then b else false then true else false)&&((w&&((bif bif a then b else false then true else false)&&true)||!bif bif a then b else false then true else false)&&(((bif bif a then b else false then true else false)&&true||!bif bif a then b else false then true else false)&&((u&&((bif bif a then b else false then true else false)&&true)||!bif bif a then b else false then true else false)&&(((bif bif a then b else false then true else false)&&true||!bif bif a then b else false then true else false)&&((((bif a then b else false)||!bif a then b else false)&&true||false)&&(((bif a then b else false)&&((bif a then b else false)&&true)||!bif a then b else false)&&(((bif a then b else false)&&true||!bif a then b else false)&&(((bif a then b else false)&&true||!bif a then b else false)&&(((a||!a)&&true||false)&&((a&&(a&&true)||!a)&&((a&&true||!a)&&((a&&true||!a)&&true)))))))))))))))))))))
def v28t (a b c d e:Bool):Bool:=(bif bif bif bif bif a then b else false then true else false then c else false then d else false then e else false)
def c28f (a b d e:Bool):Bool:=(((bif bif bif bif a then b else false then true else false then true else false then d else false)||!bif bif bif bif a then b else false then true else false then true else false then d else false)&&true||false)&&(((bif bif bif bif a then b else false then true else false then true else false then d else false)&&((bif bif bif bif a then b else false then true else false then true else false then d else false)&&true)||!bif bif bif bif a then b else false then true else false then true else false then d else false)&&(((bif bif bif bif a then b else false then true else false then true else false then d else false)&&true||!bif bif bif bif a then b else false then true else false then true else false then d else false)&&(((bif bif bif bif a then b else false then true else false then true else false then d else false)&&true||!bif bif bif bif a then b else false then true else false then true else false then d else false)&&((((bif bif bif a then b else false then true else false then true else false)||!bif bif bif a then b else false then true else false then true else false)&&true||false)&&(((bif bif bif a then b else false then true else false then true else false)&&((bif bif bif a then b else false then true else false then true else false)&&true)||!bif bif bif a then b else false then true else false then true else false)&&(((bif bif bif a then b else false then true else false then true else false)&&true||!bif bif bif a then b else false then true else false then true else false)&&(((bif bif bif a then b else false then true else false then true else false)&&true||!bif bif bif a then b else false then true else false then true else false)&&((((bif bif a then b else false then true else false)||!bif bif a then b else false then true else false)&&true||false)&&(((bif bif a then b else false then true else false)&&((bif bif a then b else false then true else false)&&true)||!bif bif a then b else false then true else false)&&(((bif bif a then b else false then true else false)&&true||!bif bif a then b else false then true else false)&&(((bif bif a then b else false then true else false)&&true||!bif bif a then b else false then true else false)&&(((bif bif a then b else false then true else false)&&true||!bif bif a then b else false then true else false)&&(((bif bif a then b else false then true else false)&&true||!bif bif a then b else false then true else false)&&((((bif a then b else false)||!bif a then b else false)&&true||false)&&(((bif a then b else false)&&((bif a then b else false)&&true)||!bif a then b else false)&&(((bif a then b else false)&&true||!bif a then b else false)&&(((bif a then b else false)&&true||!bif a then b else false)&&(((a||!a)&&true||false)&&((a&&(a&&true)||!a)&&((a&&true||!a)&&((a&&true||!a)&&true)))))))))))))))))))))
def v28f (a b d e:Bool):Bool:=(bif bif bif bif bif a then b else false then true else false then true else false then d else false then e else false)
section
variable (st cd n mk:Int) (oN oN2:Nat) (of of2:Nat->Int)
theorem p28t:walk (lookF FL) noSc 1000 x28 (argTm 0 [resA st cd (vOa 40 true oN) n mk,resA st cd (vOa 41 true oN2) n mk]) (mkH (exO 40 true (outB oN of)++exO 41 true (outB oN2 of2))) 100 j0_ ⟨[4],[],[],[40,41]⟩ j0_ =
  bif c28t (st==st) (cd==cd) (strO oN of==strO oN2 of2) (n==n) (mk==mk) (okO oN of) (okO oN2 of2)then some ⟨⟨[some (true,.bool (v28t (st==st) (cd==cd) (strO oN of==strO oN2 of2) (n==n) (mk==mk)))],[],.ret,102⟩,none⟩else none:=by kernel_rfl
theorem p28f:walk (lookF FL) noSc 1000 x28 (argTm 0 [resA st cd (vOa 40 false oN) n mk,resA st cd (vOa 41 false oN2) n mk]) (mkH []) 100 j0_ ⟨[4],[],[],[]⟩ j0_ =
  bif c28f (st==st) (cd==cd) (n==n) (mk==mk)then some ⟨⟨[some (true,.bool (v28f (st==st) (cd==cd) (n==n) (mk==mk)))],[],.ret,102⟩,none⟩else none:=by kernel_rfl
end
theorem b28 {bo:Bool}{st cd n mk:Int}{oN:Nat}{of of2:Nat->Int} (h:∀ j,j<oN->of j=of2 j):Body Try.prog 28 [resA st cd (vOa 40 bo oN) n mk,resA st cd (vOa 41 bo oN) n mk] (mkH (exO 40 bo (outB oN of)++exO 41 bo (outB oN of2))) (.bool true) [] 100 0:=by
 have e1:(st==st)=true:=by simp
 have e2:(cd==cd)=true:=by simp
 have e3:(n==n)=true:=by simp
 have e4:(mk==mk)=true:=by simp
 have e5:(strO oN of==strO oN of2)=true:=by rw[strO_congr h];simp
 cases bo with
 |true =>
  have e:=p28t st cd n mk oN oN of of2
  rw[e1,e2,e3,e4,e5,okO_true,okO_true]at e
  exact body_walk FOK fx28 (by simp) e rfl ⟨mkT [4] [.bool true],mkH [(40,outB oN of),(41,outB oN of2)],100⟩ (fun ρ w hd=>⟨_,_,_,rfl,rfl,⟨rfl,trivial⟩,bis_outB,bis_outB,trivial⟩) ⟨rfl,rfl,trivial⟩ rfl rfl
 |false =>
  have e:=p28f st cd n mk oN oN
  rw[e1,e2,e3,e4]at e
  exact body_walk FOK fx28 (by simp) e rfl ⟨mkT [4] [.bool true],mkH [],100⟩ (fun ρ w hd=>⟨_,_,_,rfl,rfl,⟨rfl,trivial⟩,trivial⟩) trivial rfl rfl
section
variable (l k:Nat) (f g:Nat->List Value)
theorem p29_a:walk (lookF FL) noSc 1000 x29 (argTm 0 [newS 40 l,newS 41 l]) (mkH [(40,seB l (seQ f)),(41,seB l (seQ g))]) 100 j0_ ⟨[4],[],[],[40,41]⟩ ⟨[13,12],[],[0,1],[40,41]⟩ =
  bif (l:Int) != (l:Int)then some ⟨⟨[some (true,.bool false)],[],.ret,100⟩,none⟩else some ⟨⟨[some (true,.int .i64 ((0:Nat):Int)),some (true,.int .i64 (l:Int))],[],.normal,100⟩,some (x29_20,[.bl 0,.sq x29_25])⟩:=by kernel_rfl
def rowEq (r r':List Value):Bool:=asI (r.getD 0 undefd)==asI (r'.getD 0 undefd)&&(asI (r.getD 1 undefd)==asI (r'.getD 1 undefd)&&(asI (r.getD 2 undefd)==asI (r'.getD 2 undefd)&&(asB (r.getD 3 undefd)==asB (r'.getD 3 undefd)&&true)))
theorem p29_b:walk (lookF FL) noSc 1000 x29_20 (mkT [13,12,0,1] [.int .i64 (k:Int),.int .i64 (l:Int),newS 40 l,newS 41 l]) (mkH [(40,seB l (seQ f)),(41,seB l (seQ g))]) 101 ⟨[13],[],[12,0,1],[40,41]⟩ ⟨[4],[],[],[40,41]⟩ j0_ =
  bif decide ((k:Int)<(l:Int))then bif ((0+k).blt l&&true||false)&&((intRange (k:Int) l&&true||false)&&(((0+k).blt l&&true||false)&&((intRange (k:Int) l&&true||false)&&true)))then
   bif !rowEq (f (0+k)) (g (0+k))then some ⟨⟨[some (true,.bool false)],[],.ret,101⟩,none⟩else some ⟨⟨[some (true,.int .i64 (IntKind.i64.wrap ((k:Int)+1)))],[],.normal,101⟩,none⟩else none
  else some ⟨⟨[some (true,.int .i64 (k:Int))],[],.exit 0,101⟩,none⟩:=by kernel_rfl
theorem p29_e:walk (lookF FL) noSc 1000 x29_25 (mkT [13,12,0,1] [.int .i64 (k:Int),.int .i64 (l:Int),newS 40 l,newS 41 l]) (mkH [(40,seB l (seQ f)),(41,seB l (seQ g))]) 101 j0_ ⟨[4],[],[],[40,41]⟩ j0_ =
  some ⟨⟨[some (true,.bool true)],[],.ret,101⟩,none⟩:=by kernel_rfl
end
theorem seQ_ren (f:Nat->List Value) (σ:Nm) (j:Nat):rnL σ (seQ f j)=seQ f j:=rfl
theorem bis_seQ {P:Program}{σ:Nm}{n:Nat}{f:Nat->List Value}:BIs P σ (seB n (seQ f)) (seB n (seQ f)):=bis_seB fun j hj=>seQ_ren f _ j
theorem b29 {l:Nat}{f g:Nat->List Value} (hl:l<=1000000000) (h:∀ j,j<l->f j=g j):Body Try.prog 29 [newS 40 l,newS 41 l] (mkH [(40,seB l (seQ f)),(41,seB l (seQ g))]) (.bool true) [] 100 0:=by
 refine body_of mixed fx29 (by simp) fun ρ w hd=>?_
 let E:=envOf Try.prog 26 100 (mkH [(40,seB l (seQ f)),(41,seB l (seQ g))]) mixed ρ w hd
 let S:Nat->St:=fun k=>⟨mkT [13,12,0,1] [.int .i64 (k:Int),.int .i64 (l:Int),newS 40 l,newS 41 l],mkH [(40,seB l (seQ f)),(41,seB l (seQ g))],101⟩
 have ea:=p29_a l f g
 rw[show((l:Int) != (l:Int))=false by simp,cond_false]at ea
 refine xwp_toLoop (E:=E) (s:=⟨_,_,_⟩) FOK 1000 ea (S 0) ⟨_,_,_,rfl,rfl,⟨rfl,rfl,rfl,rfl,trivial⟩,bis_seQ,bis_seQ,trivial⟩ ?_
 refine xwp_loopR (ι:=Nat) S (fun k=>k<=l) (fun k=>l-k) 0 (Nat.zero_le _) fun k hk=>?_
 have hcr:=cl_round (S:=S) (I:=fun k=>k<=l) (μ:=fun k=>l-k) (i:=k) (cl_ctx (E:=E.toEnv) (Q:=finP E.toEnv [(4,none)] (mkH [(40,seB l (seQ f)),(41,seB l (seQ g))]) (.bool true) [] 0) cl_fin [.bl 0,.sq x29_25])
 have e:=p29_b l k f g
 by_cases hlt:k<l
 ·have hir:intRange (k:Int) l=true:=by rw[ir_nat,decide_eq_true hlt]
  have hrow:rowEq (f k) (g k)=true:=by rw[h k hlt];simp[rowEq]
  rw[decide_eq_true (show(k:Int)<l by omega),Nat.zero_add,lt_blt hlt,hir,hrow,wrap_i (n:=(k:Int)+1) (by omega) (by omega)]at e
  exact xwp_toEnd (E:=E) (s:=S k) hcr FOK 1000 e (S (k+1)) ⟨_,_,_,rfl,rfl,⟨rfl,rfl,rfl,rfl,trivial⟩,bis_seQ,bis_seQ,trivial⟩ ⟨k+1,hlt,by simp only;omega,Wk.refl _ _⟩
 ·have:k=l:=by omega
  subst this
  rw[decide_eq_false (show ¬ (k:Int)<k by omega),cond_false]at e
  refine xwp_toEnd (E:=E) (s:=S k) hcr FOK 1000 e (S k) ⟨_,_,_,rfl,rfl,⟨rfl,rfl,rfl,rfl,trivial⟩,bis_seQ,bis_seQ,trivial⟩ ?_
  show XWP E.toEnv x29_25 _ (S k)
  exact xwp_toEnd (E:=E) (s:=S k) cl_fin FOK 1000 (p29_e k k f g) ⟨mkT [4] [.bool true],mkH [(40,seB k (seQ f)),(41,seB k (seQ g))],100⟩ ⟨_,_,_,rfl,rfl,⟨rfl,trivial⟩,bis_seQ,bis_seQ,trivial⟩ (fin_of rfl ⟨rfl,rfl,trivial⟩ rfl rfl)
def AtA (f:FuncId) (vs:List Value) (pre:List (Nat × Blk)) (v:Value):Prop:=nodupB (pre.map (·.1))=true/\∀ n,ADet Try.prog f vs (mkH pre) v [] n 0
noncomputable def conAny (f:FuncId) (vs0:List Value) (pre:List (Nat × Blk)) (v:Value):Con Try.prog where
 f:=f
 run:=fun vs h n=>some (mkH pre,v,[],0,decP (vs=vs0/\Has h pre/\AtA f vs0 pre v))
 ok:=fun vs h n pre' v' upd' news' hx=>by
  simp only[Option.some.injEq,Prod.mk.injEq]at hx
  obtain⟨rfl,rfl,rfl,rfl,hA⟩:=hx
  obtain⟨rfl,hh,hnd,hd⟩:=of_decP hA
  exact⟨has_pre hh hnd,hd n⟩
def SeQ (n:Nat) (f:Nat->List Value):Prop:=∀ j,j<n->f j=seQ f j
theorem bis_to {P:Program}{σ:Nm}{n:Nat}{f g:Nat->List Value}{o r:Bool} (h:∀ j,j<n->seQ f j=g j) (ho:r=false):BIs P σ (seB n (seQ f)) (.rows n 4 g o r):=⟨rfl,rfl,fun j hj=>by rw[seQ_ren,h j hj],.inl rfl,.inr ho⟩
theorem bis_fro {P:Program}{σ:Nm}{n:Nat}{f g:Nat->List Value}{r:Bool} (h:∀ j,j<n->seQ f j=g j):BIs P σ (.rows n 4 g true r) (seB n (seQ f)):=⟨rfl,rfl,fun j hj=>by rw[<- h j hj,seQ_ren],.inl rfl,.inr rfl⟩
theorem rowPut_0 (f g:Nat->List Value) (i j:Nat):rowPut f i 0 g j=f j:=by
 unfold rowPut
 rw[show(Nat.ble i j&&Nat.blt j (i+0))=false by rw[ble_dec,blt_dec,Nat.add_zero];simp,cond_false]
section
variable {E:FEnv}{Q:Post} (hP:E.P=Try.prog) (hn:E.B.n=50) (hcl:Cl E.toEnv Q){p q:Int}{m:MS}{al x y z:RSt}{na nx ny nz:Nat}{b0 b1 b2 s1 s2:Bool}{fu:Int}{yy:XCode}
 (hs1:∀ {σ:Nm},BIs Try.prog σ (seB x.sN x.sf) (seB x.sN x.sf)) (hs2:∀ {σ:Nm},BIs Try.prog σ (seB y.sN y.sf) (seB y.sN y.sf)) (hs3:∀ {σ:Nm},BIs Try.prog σ (seB z.sN z.sf) (seB z.sN z.sf))
include hP hn hcl hs1 hs2 hs3
end
theorem setM_ok {m:MS} (h:OKM m){k v:Int} (hv:uB v=true):OKM (setM m k v):=by
 unfold setM
 cases inK k with
 |false=>exact h
 |true=>exact⟨h.sz,h.pl,fun j=>by show uB (bif Nat.beq (j+1) (1+k.toNat*1)then v else m.x j)=true;cases Nat.beq (j+1) (1+k.toNat*1);exact h.x j;exact hv,h.kn⟩
theorem setsM_ok {m:MS} (h:OKM m){rg:Nat->Int}:∀ {R:Nat},(∀ j,j<R->uB (rg j)=true)->OKM (setsM m rg R)
 |0,_=>h
 |R+1,hr=>setM_ok (setsM_ok h fun j hj=>hr j (by omega)) (hr R (by omega))
theorem newM_ok {k L sz:Nat}{inp:Nat->Int} (h:szB sz=true):OKM (newM k L inp sz):=⟨h,rfl,fun _=>rfl,fun w h=>by cases h⟩
section
variable (m:MS) (kk a b o:Int) (tk:Bool)
end
section
variable (x o sk lk n:Int) (m:MS) (oN:Nat) (of:Nat->Int) (s:RSt) (sf:Nat->List Value) (v6 v7 st cd mk:Int) (i:Nat) (g:Nat->Int)
def t12 (b:Bool):Bool:=((!b||b)&&true||false)&&((!b&&(!b&&true)||!!b)&&((!b&&(!b&&true)||!!b)&&((!b&&true||!!b)&&true)))
end
end Go.X
