import Derived.Test.YtkghggngmpmigaaA45
set_option linter.all false
namespace Go.X
open Go Go.Proofs
def Rm (L:List Ins) (N:Nat) (a b:RA):Prop:=∃ n,n<=N/\Rt L a n b
theorem rn_refl {L:List Ins}{N:Nat} (a:RA):Rm L N a a:=⟨0,Nat.zero_le _,.refl a⟩
theorem Rm.trans {L:List Ins}{N M:Nat}{a b c:RA} (h1:Rm L N a b) (h2:Rm L M b c):Rm L (N+M) a c:=by
 obtain⟨n,hn,h1⟩:=h1
 obtain⟨m,hm,h2⟩:=h2
 exact⟨n+m,by omega,h1.trans h2⟩
theorem Rm.mono {L:List Ins}{N M:Nat}{a b:RA} (h:Rm L N a b) (hNM:N<=M):Rm L M a b:=⟨h.choose,Nat.le_trans h.choose_spec.1 hNM,h.choose_spec.2⟩
theorem rn_one {L:List Ins}{N:Nat}{a b c:RA} (h1:Rt L a 1 b) (h2:Rm L N b c):Rm L (N+1) a c:=by
 obtain⟨m,hm,h2⟩:=h2
 exact⟨1+m,by omega,h1.trans h2⟩
theorem t46 (a b:Int):takenF 46 a b=((a==b)==false):=rfl
theorem t47 (a b:Int):takenF 47 a b=(decide (IntKind.i64.wrap a<IntKind.i64.wrap b)==true):=rfl
theorem t49 (a b:Int):takenF 49 a b=(decide (a<b)==true):=rfl
theorem t50 (a b:Int):takenF 50 a b=(decide (a<b)==false):=rfl
theorem jr_all:((List.range 150).all fun q=>bits2 .andNot .u64 (4*(q:Int)) 1==4*(q:Int))=true:=by kernel_rfl
section
variable {L:List Ins} (hL:RtL L){N p:Nat}{x d:Nat->Int}{b:RA}{rd rs1 rs2 imm:Int} (hx:x 0=0)
include hL hx
theorem rn_op {op:Int} (v:Int) (hi:(rtL 0x50000)[p]?=some ⟨op,rd,rs1,rs2,imm⟩) (hv:valF (amX ⟨p,x,d⟩) op ⟨rd,rs1,rs2,imm⟩=some v) (h:Rm L N ⟨p+1,sx x rd.toNat v,d⟩ b)
  (h19:19<=p:=by decide) (hm:p≠149:=by decide) (h1:plainB op=true:=by rfl) (hr:rd.toNat≠0:=by decide) (hn:nextF (amX ⟨p,x,d⟩) op ⟨rd,rs1,rs2,imm⟩=4*((p+1:Nat):Int):=by rfl):Rm L (N+1) ⟨p,x,d⟩ b :=
 rn_one (st_op hm hx ((hL p h19).trans hi) v h1 hr hn hv) h
theorem rn_ld (a:Nat) (hi:(rtL 0x50000)[p]?=some ⟨41,rd,rs1,rs2,imm⟩) (ha:IntKind.u64.wrap (x rs1.toNat+ofF imm)=8*(a:Int)) (hS:8*a+8<=2621440) (h:Rm L N ⟨p+1,sx x rd.toNat (d a),d⟩ b)
  (h19:19<=p:=by decide) (hm:p≠149:=by decide) (hr:rd.toNat≠0:=by decide) (hr2:rd.toNat<32:=by decide):Rm L (N+1) ⟨p,x,d⟩ b :=
 rn_one (st_ld hm hx ((hL p h19).trans hi) a rfl hr hr2 ha hS) h
theorem rn_sd (a:Nat) (hi:(rtL 0x50000)[p]?=some ⟨44,rd,rs1,rs2,imm⟩) (ha:IntKind.u64.wrap (x rs1.toNat+ofF imm)=8*(a:Int)) (hS:8*a+8<=2621440) (hC:262144<=8*a) (h:Rm L N ⟨p+1,x,ud d a (x rs2.toNat)⟩ b)
  (h19:19<=p:=by decide) (hm:p≠149:=by decide):Rm L (N+1) ⟨p,x,d⟩ b :=
 rn_one (st_sd hm hx ((hL p h19).trans hi) a rfl ha hS hC) h
theorem rn_br {op:Int} (q:Nat) (hi:(rtL 0x50000)[p]?=some ⟨op,rd,rs1,rs2,imm⟩) (hn:nextF (amX ⟨p,x,d⟩) op ⟨rd,rs1,rs2,imm⟩=4*(q:Int)) (h:Rm L N ⟨q,x,d⟩ b)
  (h19:19<=p:=by decide) (hm:p≠149:=by decide) (h1:plainB op=true:=by rfl) (hv:valF (amX ⟨p,x,d⟩) op ⟨rd,rs1,rs2,imm⟩=none:=by rfl):Rm L (N+1) ⟨p,x,d⟩ b:=by
 have s:=st_pl (S:=2621440) (C:=262144) (d:=d) hm hx ((hL p h19).trans hi) q none h1 hn hv
 rw[show putR x rd none=x from zero_x hx]at s
 exact rn_one s h
omit hL hx in
theorem nextF_br {m:MS}{op:Int}{c:Cand} (h:op=45\/op=46\/op=47\/op=48\/op=49\/op=50):nextF m op c=(bif takenF op (m.x c.rs1.toNat) (m.x c.rs2.toNat)then IntKind.u64.wrap (m.pl+ofF c.imm)else nxt m)/\plainB op=true/\valF m op c=none:=by
 rcases h with rfl|rfl|rfl|rfl|rfl|rfl<;>exact⟨rfl,rfl,rfl⟩
theorem rn_bn {op:Int}{u v:Int} (hi:(rtL 0x50000)[p]?=some ⟨op,rd,rs1,rs2,imm⟩) (hu:x rs1.toNat=u) (hv:x rs2.toNat=v) (ht:takenF op u v=false) (h:Rm L N ⟨p+1,x,d⟩ b)
  (h19:19<=p:=by decide) (hm:p≠149:=by decide) (hp:p<1000:=by decide) (ho:op=45\/op=46\/op=47\/op=48\/op=49\/op=50:=by decide):Rm L (N+1) ⟨p,x,d⟩ b:=by
 obtain⟨e1,e2,e3⟩:=nextF_br (m:=amX ⟨p,x,d⟩) (c:=⟨rd,rs1,rs2,imm⟩) ho
 refine rn_br hL hx (p+1) hi ?_ h h19 hm e2 e3
 rw[e1,show takenF op ((amX ⟨p,x,d⟩).x rs1.toNat) ((amX ⟨p,x,d⟩).x rs2.toNat)=false by rw[<- ht,<- hu,<- hv];rfl,cond_false]
 show IntKind.u64.wrap (4*(p:Int)+4)=_
 rw[u64w];omega
theorem rn_bt {op:Int}{u v:Int} (q:Nat) (hi:(rtL 0x50000)[p]?=some ⟨op,rd,rs1,rs2,imm⟩) (hu:x rs1.toNat=u) (hv:x rs2.toNat=v) (ht:takenF op u v=true) (hq:(4*(p:Int)+imm)=4*(q:Int)) (h:Rm L N ⟨q,x,d⟩ b)
  (h19:19<=p:=by decide) (hm:p≠149:=by decide) (hqq:q<1000:=by decide) (ho:op=45\/op=46\/op=47\/op=48\/op=49\/op=50:=by decide):Rm L (N+1) ⟨p,x,d⟩ b:=by
 obtain⟨e1,e2,e3⟩:=nextF_br (m:=amX ⟨p,x,d⟩) (c:=⟨rd,rs1,rs2,imm⟩) ho
 refine rn_br hL hx q hi ?_ h h19 hm e2 e3
 rw[e1,show takenF op ((amX ⟨p,x,d⟩).x rs1.toNat) ((amX ⟨p,x,d⟩).x rs2.toNat)=true by rw[<- ht,<- hu,<- hv];rfl,cond_true]
 show IntKind.u64.wrap (4*(p:Int)+ofF imm)=_
 unfold ofF
 rw[u64w,u64w];omega
theorem rn_j {op:Int} (q:Nat) (v:Option Int) (hi:(rtL 0x50000)[p]?=some ⟨op,0,rs1,rs2,imm⟩) (hn:nextF (amX ⟨p,x,d⟩) op ⟨0,rs1,rs2,imm⟩=4*(q:Int)) (h:Rm L N ⟨q,x,d⟩ b)
  (h19:19<=p:=by decide) (hm:p≠149:=by decide) (h1:plainB op=true:=by rfl):Rm L (N+1) ⟨p,x,d⟩ b:=by
 have s:=st_pl (S:=2621440) (C:=262144) (d:=d) hm hx ((hL p h19).trans hi) q _ h1 hn rfl
 have e:putR x 0 (valF (amX ⟨p,x,d⟩) op ⟨0,rs1,rs2,imm⟩)=x:=by
  cases valF (amX ⟨p,x,d⟩) op ⟨0,rs1,rs2,imm⟩with
  |none=>exact zero_x hx
  |some v=>exact putR_0 rfl hx
 rw[e]at s
 exact rn_one s h
theorem rn_jr (q:Nat) (hi:(rtL 0x50000)[p]?=some ⟨54,0,rs1,rs2,0⟩) (hq:q<150) (hr:x rs1.toNat=4*(q:Int)) (h:Rm L N ⟨q,x,d⟩ b) (h19:19<=p:=by decide) (hm:p≠149:=by decide):Rm L (N+1) ⟨p,x,d⟩ b:=by
 refine rn_j hL hx q none hi ?_ h h19 hm
 show bits2 .andNot .u64 (IntKind.u64.wrap (x rs1.toNat+ofF 0)) 1=_
 rw[hr,show IntKind.u64.wrap (4*(q:Int)+ofF 0)=4*(q:Int) by unfold ofF;rw[u64w,u64w];omega]
 exact eq_of_beq (List.all_eq_true.1 jr_all q (List.mem_range.2 hq))
theorem rn_jal (q:Nat) (hi:(rtL 0x50000)[p]?=some ⟨53,rd,rs1,rs2,imm⟩) (hn:nextF (amX ⟨p,x,d⟩) 53 ⟨rd,rs1,rs2,imm⟩=4*(q:Int)) (hp:p<1000) (h:Rm L N ⟨q,sx x rd.toNat (4*((p+1:Nat):Int)),d⟩ b)
  (h19:19<=p:=by decide) (hm:p≠149:=by decide) (hr:rd.toNat≠0:=by decide):Rm L (N+1) ⟨p,x,d⟩ b:=by
 have s:=st_pl (S:=2621440) (C:=262144) (d:=d) hm hx ((hL p h19).trans hi) q (some (4*((p+1:Nat):Int))) rfl hn (by
  show some (IntKind.u64.wrap (4*(p:Int)+4))=_
  rw[u64w];exact congrArg some (by omega))
 rw[putR_sx hr hx]at s
 exact rn_one s h
end
section
variable {L:List Ins} (hL:RtL L)
include hL
theorem lock_tail {x d:Nat->Int} (hx:x 0=0){t q key:Nat} (h6:x 6=262144) (h30:x 30=((8*t:Nat):Int)) (ht1:262144<=8*t) (ht2:8*t+24<=2621440) (h5:x 5=4*(q:Int)) (hq:q<150) (hk:d 32770=(key:Int)) (hk2:key<1000000) :
  Rm L 7 ⟨34,x,d⟩ ⟨q,sx (sx x 31 (key:Int)) 31 ((key+1:Nat):Int),ud (ud (ud (ud d 32770 ((key+1:Nat):Int)) t ((key+1:Nat):Int)) (t+1) 0) (t+2) 0⟩:=by
 have a6:∀ {c:Nat},c<100->IntKind.u64.wrap (x 6+ofF ((8*c:Nat):Int))=8*((32768+c:Nat):Int):=fun {c} hc=>by
  rw[h6];unfold ofF;rw[u64w,u64w];omega
 have a30:∀ {c:Nat},c<100->IntKind.u64.wrap (x 30+ofF ((8*c:Nat):Int))=8*((t+c:Nat):Int):=fun {c} hc=>by
  rw[h30];unfold ofF;rw[u64w,u64w];omega
 refine rn_ld hL hx 32770 (by kernel_rfl:(rtL 0x50000)[34]?=some ⟨41,31,6,0,16⟩) (a6 (c:=2) (by decide)) (by decide) ?_
 rw[hk]
 refine rn_op hL (x:=sx x 31 (key:Int)) hx ((key+1:Nat):Int) (by kernel_rfl:(rtL 0x50000)[35]?=some ⟨28,31,31,0,1⟩) (by
  show some (IntKind.u64.wrap ((key:Int)+ofF 1))=_
  exact congrArg some (addw (b:=1) (by omega))) ?_
 refine rn_sd hL (x:=sx (sx x 31 (key:Int)) 31 ((key+1:Nat):Int)) hx 32770 (by kernel_rfl:(rtL 0x50000)[36]?=some ⟨44,0,6,31,16⟩) (a6 (c:=2) (by decide)) (by decide) (by decide) ?_
 refine rn_sd hL (x:=sx (sx x 31 (key:Int)) 31 ((key+1:Nat):Int)) hx t (by kernel_rfl:(rtL 0x50000)[37]?=some ⟨44,0,30,31,0⟩) (a30 (c:=0) (by decide)) (by omega) ht1 ?_
 refine rn_sd hL (x:=sx (sx x 31 (key:Int)) 31 ((key+1:Nat):Int)) hx (t+1) (by kernel_rfl:(rtL 0x50000)[38]?=some ⟨44,0,30,0,8⟩) (a30 (c:=1) (by decide)) (by omega) (by omega) ?_
 refine rn_sd hL (x:=sx (sx x 31 (key:Int)) 31 ((key+1:Nat):Int)) hx (t+2) (by kernel_rfl:(rtL 0x50000)[39]?=some ⟨44,0,30,0,16⟩) (a30 (c:=2) (by decide)) (by omega) (by omega) ?_
 refine rn_jr hL (x:=sx (sx x 31 (key:Int)) 31 ((key+1:Nat):Int)) hx q (by kernel_rfl:(rtL 0x50000)[40]?=some ⟨54,0,5,0,0⟩) hq h5 ?_
 have e0:(sx (sx x 31 (key:Int)) 31 ((key+1:Nat):Int)) (Int.toNat 0)=0:=hx
 rw[e0]
 exact rn_refl _
end
def lkD (d:Nat->Int) (t key:Nat):Nat->Int:=ud (ud (ud (ud d 32770 (key:Int)) t (key:Int)) (t+1) 0) (t+2) 0
theorem sx_ne {x:Nat->Int}{r k:Nat}{v:Int} (h:r≠k):sx x k v r=x r:=by
 unfold sx;rw[beq_ff h];rfl
theorem ud_ne {d:Nat->Int}{a k:Nat}{v:Int} (h:k≠a):ud d a v k=d k:=by
 unfold ud;rw[beq_ff h];rfl
section
variable {L:List Ins} (hL:RtL L){x d:Nat->Int} (hx:x 0=0){t q key:Nat}
include hL hx
theorem lock_new (h5:x 5=4*(q:Int)) (hq:q<150) (hl:d 32772=0) (ha:d 32771=((8*t:Nat):Int)) (ht1:262144<=8*t) (ht2:8*t<327680) (hk:d 32770=(key:Int)) (hk2:key<1000000) (h71:32772<t) :
  ∃ x',Rm L 15 ⟨23,x,d⟩ ⟨q,x',lkD (ud d 32771 ((8*(t+4):Nat):Int)) t (key+1)⟩/\x' 30=((8*t:Nat):Int)/\x' 31=((key+1:Nat):Int)/\x' 0=0/\∀ r,r≠6->r≠7->r≠30->r≠31->x' r=x r:=by
 refine⟨sx (sx (sx (sx (sx (sx (sx x 6 262144) 30 0) 30 ((8*t:Nat):Int)) 7 327680) 7 ((8*(t+4):Nat):Int)) 31 (key:Int)) 31 ((key+1:Nat):Int),rn_op hL hx 262144 (by kernel_rfl:(rtL 0x50000)[23]?=some ⟨51,6,0,0,64⟩) rfl ?_,?_⟩
 ·refine rn_ld hL (x:=sx x 6 262144) hx 32772 (by kernel_rfl:(rtL 0x50000)[24]?=some ⟨41,30,6,0,32⟩) rfl (by decide) ?_
  rw[hl]
  refine rn_bt hL (x:=sx (sx x 6 262144) 30 0) hx 29 (by kernel_rfl:(rtL 0x50000)[25]?=some ⟨45,0,30,0,16⟩) rfl hx rfl rfl ?_
  refine rn_ld hL (x:=sx (sx x 6 262144) 30 0) hx 32771 (by kernel_rfl:(rtL 0x50000)[29]?=some ⟨41,30,6,0,24⟩) rfl (by decide) ?_
  rw[ha]
  refine rn_op hL (x:=sx (sx (sx x 6 262144) 30 0) 30 ((8*t:Nat):Int)) hx 327680 (by kernel_rfl:(rtL 0x50000)[30]?=some ⟨51,7,0,0,80⟩) rfl ?_
  refine rn_bn hL (x:=sx (sx (sx (sx x 6 262144) 30 0) 30 ((8*t:Nat):Int)) 7 327680) hx (by kernel_rfl:(rtL 0x50000)[31]?=some ⟨50,0,30,7,-40⟩) (u:=((8*t:Nat):Int)) (v:=327680) rfl rfl (by
   rw[t50,decide_eq_true (by omega)];rfl) ?_
  refine rn_op hL (x:=sx (sx (sx (sx x 6 262144) 30 0) 30 ((8*t:Nat):Int)) 7 327680) hx ((8*(t+4):Nat):Int) (by kernel_rfl:(rtL 0x50000)[32]?=some ⟨28,7,30,0,32⟩) (by
   show some (IntKind.u64.wrap (((8*t:Nat):Int)+ofF 32))=_
   exact congrArg some ((addw (b:=32) (by omega)).trans (by omega))) ?_
  refine rn_sd hL (x:=sx (sx (sx (sx (sx x 6 262144) 30 0) 30 ((8*t:Nat):Int)) 7 327680) 7 ((8*(t+4):Nat):Int)) hx 32771 (by kernel_rfl:(rtL 0x50000)[33]?=some ⟨44,0,6,7,24⟩) rfl (by decide) (by decide) ?_
  exact lock_tail hL (x:=sx (sx (sx (sx (sx x 6 262144) 30 0) 30 ((8*t:Nat):Int)) 7 327680) 7 ((8*(t+4):Nat):Int)) (d:=ud d 32771 ((8*(t+4):Nat):Int)) hx rfl rfl ht1 (by omega) h5 hq ((ud_ne (by decide)).trans hk) hk2
 ·refine⟨rfl,rfl,hx,fun r h6 h7 h30 h31=>?_⟩
  rw[sx_ne h31,sx_ne h31,sx_ne h7,sx_ne h7,sx_ne h30,sx_ne h30,sx_ne h6]
end
theorem sh5:2 ^ min (bits2 .and .u64 (ofF 5) 63).toNat 64=(32:Int):=by kernel_rfl
theorem sh2:2 ^ min (bits2 .and .u64 (ofF 2) 63).toNat 64=(4:Int):=by kernel_rfl
theorem sll5 (a:Int):doF (plainF 34) a (ofF 5)=IntKind.u64.wrap (a*32):=by
 show IntKind.u64.wrap (a*2 ^ min (bits2 .and .u64 (ofF 5) 63).toNat 64)=_
 rw[sh5]
theorem sll2 (a:Int):doF (plainF 34) a (ofF 2)=IntKind.u64.wrap (a*4):=by
 show IntKind.u64.wrap (a*2 ^ min (bits2 .and .u64 (ofF 2) 63).toNat 64)=_
 rw[sh2]
theorem srl5 (a:Int):doF (plainF 35) a (ofF 5)=a.fdiv 32:=by
 show a.fdiv (2 ^ min (bits2 .and .u64 (ofF 5) 63).toNat 64)=_
 rw[sh5]
section
variable {L:List Ins} (hL:RtL L){x d:Nat->Int} (hx:x 0=0)
include hL hx
def rlD (d:Nat->Int) (t:Nat) (h:Int):Nat->Int:=ud (ud (ud d t 0) (t+3) h) 32772 ((8*t:Nat):Int)
theorem release {t q:Nat}{h:Int} (h30:x 30=((8*t:Nat):Int)) (ht1:262144<=8*t) (ht2:8*t<327680) (hh:d 32772=h) (h1:x 1=4*(q:Int)) (hq:q<150) (h71:32772<t) :
  ∃ x',Rm L 6 ⟨50,x,d⟩ ⟨q,x',rlD d t h⟩/\x' 0=0/\∀ r,r≠6->r≠7->x' r=x r:=by
 refine⟨sx (sx x 6 262144) 7 h,?_,hx,fun r h6 h7=>by rw[sx_ne h7,sx_ne h6]⟩
 refine rn_op hL hx 262144 (by kernel_rfl:(rtL 0x50000)[50]?=some ⟨51,6,0,0,64⟩) rfl ?_
 refine rn_ld hL (x:=sx x 6 262144) hx 32772 (by kernel_rfl:(rtL 0x50000)[51]?=some ⟨41,7,6,0,32⟩) rfl (by decide) ?_
 rw[hh]
 have a30:∀ {c:Nat},c<100->IntKind.u64.wrap (x 30+ofF ((8*c:Nat):Int))=8*((t+c:Nat):Int):=fun {c} hc=>by
  rw[h30];unfold ofF;rw[u64w,u64w];omega
 refine rn_sd hL (x:=sx (sx x 6 262144) 7 h) hx t (by kernel_rfl:(rtL 0x50000)[52]?=some ⟨44,0,30,0,0⟩) (a30 (c:=0) (by decide)) (by omega) ht1 ?_
 refine rn_sd hL (x:=sx (sx x 6 262144) 7 h) hx (t+3) (by kernel_rfl:(rtL 0x50000)[53]?=some ⟨44,0,30,7,24⟩) (a30 (c:=3) (by decide)) (by omega) (by omega) ?_
 refine rn_sd hL (x:=sx (sx x 6 262144) 7 h) hx 32772 (by kernel_rfl:(rtL 0x50000)[54]?=some ⟨44,0,6,30,32⟩) rfl (by decide) (by decide) ?_
 refine rn_jr hL (x:=sx (sx x 6 262144) 7 h) hx q (by kernel_rfl:(rtL 0x50000)[55]?=some ⟨54,0,1,0,0⟩) hq h1 ?_
 have e0:(sx (sx x 6 262144) 7 h) (Int.toNat 0)=0:=hx
 have e1:(sx (sx x 6 262144) 7 h) (Int.toNat 30)=((8*t:Nat):Int):=h30
 have e2:(sx (sx x 6 262144) 7 h) (Int.toNat 7)=h:=rfl
 rw[e0,e1,e2]
 exact rn_refl _
end
def shK (k:Nat):Nat:=4*(k-40960)+98304
def shX (x:Nat->Int) (k:Nat):Nat->Int:=sx (sx (sx (sx (sx x 6 327680) 30 ((8*(k-40960):Nat):Int)) 30 ((8*(4*(k-40960)):Nat):Int)) 6 786432) 30 ((8*shK k:Nat):Int)
theorem shX_ne {x:Nat->Int}{k r:Nat} (h6:r≠6) (h30:r≠30):shX x k r=x r:=by
 unfold shX;rw[sx_ne h30,sx_ne h6,sx_ne h30,sx_ne h30,sx_ne h6]
section
variable {L:List Ins} (hL:RtL L){x d:Nat->Int} (hx:x 0=0){k q:Nat} (h10:x 10=((8*k:Nat):Int)) (hk1:40960<=k) (hk2:k<73728) (h1:x 1=4*(q:Int)) (hq:q<150)
include hL hx h10 hk1 hk2
include h1 hq
theorem clear_ok {n:Nat} (h11:x 11=((8*n:Nat):Int)) (hn:k+n<=73728):∃ x',Rm L (9*n+8) ⟨133,x,d⟩ ⟨q,x',clr d k (shK k) n⟩/\x' 0=0/\∀ r,r≠6->r≠30->r≠10->r≠11->x' r=x r:=by
 obtain⟨x',h2,h3⟩:=clr_loop hL n (k:=k) (j:=shK k) (x:=sx (shX x k) 11 ((8*(k+n):Nat):Int)) (d:=d) hx h10 rfl rfl (by omega) (by omega) (by unfold shK;omega) (by unfold shK;omega)
 refine⟨x',?_,by rw[h3 0 (by decide) (by decide)];exact hx,fun r h6 h30 h10 h11=>by rw[h3 r h10 h30,sx_ne h11];exact shX_ne h6 h30⟩
 refine Rm.mono (N:=(9*n+1+1)+1+5) ?_ (by omega)
 refine rn_op hL hx 327680 (by kernel_rfl:(rtL 0x50000)[133]?=some ⟨51,6,0,0,80⟩) rfl ?_
 refine rn_op hL (x:=sx x 6 327680) hx ((8*(k-40960):Nat):Int) (by kernel_rfl:(rtL 0x50000)[134]?=some ⟨2,30,10,6,0⟩) (by
  show some (IntKind.u64.wrap (x 10-327680))=_
  rw[h10,u64w];exact congrArg some (by omega)) ?_
 refine rn_op hL (x:=sx (sx x 6 327680) 30 ((8*(k-40960):Nat):Int)) hx ((8*(4*(k-40960)):Nat):Int) (by kernel_rfl:(rtL 0x50000)[135]?=some ⟨34,30,30,0,2⟩) (by
  show some (doF (plainF 34) ((8*(k-40960):Nat):Int) (ofF 2))=_
  rw[sll2,u64w];exact congrArg some (by omega)) ?_
 refine rn_op hL (x:=sx (sx (sx x 6 327680) 30 ((8*(k-40960):Nat):Int)) 30 ((8*(4*(k-40960)):Nat):Int)) hx 786432 (by kernel_rfl:(rtL 0x50000)[136]?=some ⟨51,6,0,0,192⟩) rfl ?_
 refine rn_op hL (x:=sx (sx (sx (sx x 6 327680) 30 ((8*(k-40960):Nat):Int)) 30 ((8*(4*(k-40960)):Nat):Int)) 6 786432) hx ((8*shK k:Nat):Int) (by kernel_rfl:(rtL 0x50000)[137]?=some ⟨1,30,30,6,0⟩) (by
  show some (IntKind.u64.wrap (((8*(4*(k-40960)):Nat):Int)+786432))=_
  rw[u64w];unfold shK;exact congrArg some (by omega)) ?_
 show Rm L _ ⟨138,shX x k,d⟩ _
 refine rn_op hL (x:=shX x k) hx ((8*(k+n):Nat):Int) (by kernel_rfl:(rtL 0x50000)[138]?=some ⟨1,11,10,11,0⟩) (by
  show some (IntKind.u64.wrap (x 10+x 11))=_
  rw[h10,h11,u64w];exact congrArg some (by omega)) ?_
 refine Rm.trans (N:=9*n+1) (M:=1) ⟨9*n+1,Nat.le_refl _,h2⟩ ?_
 exact rn_jr hL (x:=x') (N:=0) (by rw[h3 0 (by decide) (by decide)];exact hx) q (by kernel_rfl:(rtL 0x50000)[148]?=some ⟨54,0,1,0,0⟩) hq ((h3 1 (by decide) (by decide)).trans h1) (rn_refl _)
end
theorem ne46 {a b:Int} (h:a≠b):takenF 46 a b=true:=by
 rw[t46,show(a==b)=false by simpa using h];rfl
theorem eq46 {a b:Int} (h:a=b):takenF 46 a b=false:=by
 subst h;rw[t46,show(a==a)=true by simp];rfl
def frX (x:Nat->Int) (i:Nat):Nat->Int:=sx (sx (sx x 30 ((32*i:Nat):Int)) 6 266240) 30 ((8*(33280+4*i):Nat):Int)
theorem frX_ne {x:Nat->Int}{i r:Nat} (h6:r≠6) (h30:r≠30):frX x i r=x r:=by
 unfold frX;rw[sx_ne h30,sx_ne h6,sx_ne h30]
section
variable {L:List Ins} (hL:RtL L){x d:Nat->Int} (hx:x 0=0){i:Nat} (hi:i<1900) (hi0:0<i) (h14:x 14=(i:Int))
include hL hx hi hi0 h14
theorem free_at {N:Nat}{b:RA} (h:Rm L N ⟨100,frX x i,d⟩ b):Rm L (N+3) ⟨97,x,d⟩ b:=by
 refine rn_op hL hx ((32*i:Nat):Int) (by kernel_rfl:(rtL 0x50000)[97]?=some ⟨34,30,14,0,5⟩) (by
  show some (doF (plainF 34) (x 14) (ofF 5))=_
  rw[sll5,h14,u64w];exact congrArg some (by omega)) ?_
 refine rn_op hL (x:=sx x 30 ((32*i:Nat):Int)) hx 266240 (by kernel_rfl:(rtL 0x50000)[98]?=some ⟨51,6,0,0,65⟩) rfl ?_
 exact rn_op hL (x:=sx (sx x 30 ((32*i:Nat):Int)) 6 266240) hx ((8*(33280+4*i):Nat):Int) (by kernel_rfl:(rtL 0x50000)[99]?=some ⟨1,30,30,6,0⟩) (by
  show some (IntKind.u64.wrap (((32*i:Nat):Int)+266240))=_
  rw[u64w];exact congrArg some (by omega)) h
theorem adF {y:Nat->Int} (h30:y 30=((8*(33280+4*i):Nat):Int)){c:Nat} (hc:c<100):IntKind.u64.wrap (y 30+ofF ((8*c:Nat):Int))=8*((33280+4*i+c:Nat):Int):=by
 rw[h30];unfold ofF;rw[u64w,u64w];omega
theorem free_trap (hne:¬ (d (33280+4*i)=x 13/\d (33280+4*i+1)=x 11/\d (33280+4*i+2)=x 12/\x 10=x 11)):∃ x',Rm L 10 ⟨97,x,d⟩ ⟨19,x',d⟩/\x' 0=0:=by
 let X1:=sx (frX x i) 6 (d (33280+4*i))
 let X2:=sx X1 6 (d (33280+4*i+1))
 let X3:=sx X2 6 (d (33280+4*i+2))
 have a0:IntKind.u64.wrap (frX x i 30+ofF 0)=8*((33280+4*i:Nat):Int):=adF hL hx hi hi0 h14 (y:=frX x i) rfl (c:=0) (by decide)
 have a1:IntKind.u64.wrap (X1 30+ofF 8)=8*((33280+4*i+1:Nat):Int):=adF hL hx hi hi0 h14 (y:=X1) rfl (c:=1) (by decide)
 have a2:IntKind.u64.wrap (X2 30+ofF 16)=8*((33280+4*i+2:Nat):Int):=adF hL hx hi hi0 h14 (y:=X2) rfl (c:=2) (by decide)
 by_cases e1:d (33280+4*i)=x 13
 ·by_cases e2:d (33280+4*i+1)=x 11
  ·by_cases e3:d (33280+4*i+2)=x 12
   ·have e4:x 10≠x 11:=fun h=>hne ⟨e1,e2,e3,h⟩
    refine⟨X3,free_at hL hx hi hi0 h14 (N:=7) ?_,hx⟩
    refine rn_ld hL (x:=frX x i) hx (33280+4*i) (by kernel_rfl:(rtL 0x50000)[100]?=some ⟨41,6,30,0,0⟩) a0 (by omega) ?_
    refine rn_bn hL (x:=X1) hx (by kernel_rfl:(rtL 0x50000)[101]?=some ⟨46,0,6,13,-328⟩) (u:=d (33280+4*i)) (v:=x 13) rfl rfl (eq46 e1) ?_
    refine rn_ld hL (x:=X1) hx (33280+4*i+1) (by kernel_rfl:(rtL 0x50000)[102]?=some ⟨41,6,30,0,8⟩) a1 (by omega) ?_
    refine rn_bn hL (x:=X2) hx (by kernel_rfl:(rtL 0x50000)[103]?=some ⟨46,0,6,11,-336⟩) (u:=d (33280+4*i+1)) (v:=x 11) rfl rfl (eq46 e2) ?_
    refine rn_ld hL (x:=X2) hx (33280+4*i+2) (by kernel_rfl:(rtL 0x50000)[104]?=some ⟨41,6,30,0,16⟩) a2 (by omega) ?_
    refine rn_bn hL (x:=X3) hx (by kernel_rfl:(rtL 0x50000)[105]?=some ⟨46,0,6,12,-344⟩) (u:=d (33280+4*i+2)) (v:=x 12) rfl rfl (eq46 e3) ?_
    exact rn_bt hL (x:=X3) hx 19 (by kernel_rfl:(rtL 0x50000)[106]?=some ⟨46,0,10,11,-348⟩) (u:=x 10) (v:=x 11) rfl rfl (ne46 e4) (by decide) (rn_refl (N:=0) _)
   ·refine⟨X3,Rm.mono (free_at hL hx hi hi0 h14 (N:=6) ?_) (by decide),hx⟩
    refine rn_ld hL (x:=frX x i) hx (33280+4*i) (by kernel_rfl:(rtL 0x50000)[100]?=some ⟨41,6,30,0,0⟩) a0 (by omega) ?_
    refine rn_bn hL (x:=X1) hx (by kernel_rfl:(rtL 0x50000)[101]?=some ⟨46,0,6,13,-328⟩) (u:=d (33280+4*i)) (v:=x 13) rfl rfl (eq46 e1) ?_
    refine rn_ld hL (x:=X1) hx (33280+4*i+1) (by kernel_rfl:(rtL 0x50000)[102]?=some ⟨41,6,30,0,8⟩) a1 (by omega) ?_
    refine rn_bn hL (x:=X2) hx (by kernel_rfl:(rtL 0x50000)[103]?=some ⟨46,0,6,11,-336⟩) (u:=d (33280+4*i+1)) (v:=x 11) rfl rfl (eq46 e2) ?_
    refine rn_ld hL (x:=X2) hx (33280+4*i+2) (by kernel_rfl:(rtL 0x50000)[104]?=some ⟨41,6,30,0,16⟩) a2 (by omega) ?_
    exact rn_bt hL (x:=X3) hx 19 (by kernel_rfl:(rtL 0x50000)[105]?=some ⟨46,0,6,12,-344⟩) (u:=d (33280+4*i+2)) (v:=x 12) rfl rfl (ne46 e3) (by decide) (rn_refl (N:=0) _)
  ·refine⟨X2,Rm.mono (free_at hL hx hi hi0 h14 (N:=4) ?_) (by decide),hx⟩
   refine rn_ld hL (x:=frX x i) hx (33280+4*i) (by kernel_rfl:(rtL 0x50000)[100]?=some ⟨41,6,30,0,0⟩) a0 (by omega) ?_
   refine rn_bn hL (x:=X1) hx (by kernel_rfl:(rtL 0x50000)[101]?=some ⟨46,0,6,13,-328⟩) (u:=d (33280+4*i)) (v:=x 13) rfl rfl (eq46 e1) ?_
   refine rn_ld hL (x:=X1) hx (33280+4*i+1) (by kernel_rfl:(rtL 0x50000)[102]?=some ⟨41,6,30,0,8⟩) a1 (by omega) ?_
   exact rn_bt hL (x:=X2) hx 19 (by kernel_rfl:(rtL 0x50000)[103]?=some ⟨46,0,6,11,-336⟩) (u:=d (33280+4*i+1)) (v:=x 11) rfl rfl (ne46 e2) (by decide) (rn_refl (N:=0) _)
 ·refine⟨X1,Rm.mono (free_at hL hx hi hi0 h14 (N:=2) ?_) (by decide),hx⟩
  refine rn_ld hL (x:=frX x i) hx (33280+4*i) (by kernel_rfl:(rtL 0x50000)[100]?=some ⟨41,6,30,0,0⟩) a0 (by omega) ?_
  exact rn_bt hL (x:=X1) hx 19 (by kernel_rfl:(rtL 0x50000)[101]?=some ⟨46,0,6,13,-328⟩) (u:=d (33280+4*i)) (v:=x 13) rfl rfl (ne46 e1) (by decide) (rn_refl (N:=0) _)
theorem free_ok {k q:Nat}{f h:Int} (e1:d (33280+4*i)=x 13) (e2:d (33280+4*i+1)=x 11) (e3:d (33280+4*i+2)=x 12) (e4:x 10=x 11) (h11:x 11=((8*k:Nat):Int)) (hk1:40962<=k) (hk2:k<73728) (hf:d 32769=f) (hh:d 32772=h) (h1:x 1=4*(q:Int)) (hq:q<150) :
  ∃ x',Rm L 22 ⟨97,x,d⟩ ⟨q,x',rlD (ud (ud d (k-1) f) 32769 ((8*(k-2):Nat):Int)) (33280+4*i) h⟩/\x' 0=0/\∀ r,r≠6->r≠7->r≠29->r≠30->x' r=x r:=by
 let X1:=sx (frX x i) 6 (d (33280+4*i))
 let X2:=sx X1 6 (d (33280+4*i+1))
 let X3:=sx X2 6 (d (33280+4*i+2))
 let X4:=sx (sx (sx X3 6 262144) 29 ((8*(k-2):Nat):Int)) 7 f
 have a0:IntKind.u64.wrap (frX x i 30+ofF 0)=8*((33280+4*i:Nat):Int):=adF hL hx hi hi0 h14 (y:=frX x i) rfl (c:=0) (by decide)
 have a1:IntKind.u64.wrap (X1 30+ofF 8)=8*((33280+4*i+1:Nat):Int):=adF hL hx hi hi0 h14 (y:=X1) rfl (c:=1) (by decide)
 have a2:IntKind.u64.wrap (X2 30+ofF 16)=8*((33280+4*i+2:Nat):Int):=adF hL hx hi hi0 h14 (y:=X2) rfl (c:=2) (by decide)
 obtain⟨x',h2,h3,h4⟩:=release hL (x:=X4) (d:=ud (ud d (k-1) f) 32769 ((8*(k-2):Nat):Int)) hx (t:=33280+4*i) (q:=q) (h:=h) rfl (by omega) (by omega) (by rw[ud_ne (by decide),ud_ne (by omega)];exact hh) h1 hq (by omega)
 refine⟨x',?_,h3,fun r h6 h7 h29 h30=>?_⟩
 ·refine Rm.mono (free_at hL hx hi hi0 h14 (N:=6+13) ?_) (by decide)
  refine rn_ld hL (x:=frX x i) hx (33280+4*i) (by kernel_rfl:(rtL 0x50000)[100]?=some ⟨41,6,30,0,0⟩) a0 (by omega) ?_
  refine rn_bn hL (x:=X1) hx (by kernel_rfl:(rtL 0x50000)[101]?=some ⟨46,0,6,13,-328⟩) (u:=d (33280+4*i)) (v:=x 13) rfl rfl (eq46 e1) ?_
  refine rn_ld hL (x:=X1) hx (33280+4*i+1) (by kernel_rfl:(rtL 0x50000)[102]?=some ⟨41,6,30,0,8⟩) a1 (by omega) ?_
  refine rn_bn hL (x:=X2) hx (by kernel_rfl:(rtL 0x50000)[103]?=some ⟨46,0,6,11,-336⟩) (u:=d (33280+4*i+1)) (v:=x 11) rfl rfl (eq46 e2) ?_
  refine rn_ld hL (x:=X2) hx (33280+4*i+2) (by kernel_rfl:(rtL 0x50000)[104]?=some ⟨41,6,30,0,16⟩) a2 (by omega) ?_
  refine rn_bn hL (x:=X3) hx (by kernel_rfl:(rtL 0x50000)[105]?=some ⟨46,0,6,12,-344⟩) (u:=d (33280+4*i+2)) (v:=x 12) rfl rfl (eq46 e3) ?_
  refine rn_bn hL (x:=X3) hx (by kernel_rfl:(rtL 0x50000)[106]?=some ⟨46,0,10,11,-348⟩) (u:=x 10) (v:=x 11) rfl rfl (eq46 e4) ?_
  refine rn_op hL (x:=X3) hx 262144 (by kernel_rfl:(rtL 0x50000)[107]?=some ⟨51,6,0,0,64⟩) rfl ?_
  refine rn_op hL (x:=sx X3 6 262144) hx ((8*(k-2):Nat):Int) (by kernel_rfl:(rtL 0x50000)[108]?=some ⟨28,29,11,0,-16⟩) (by
   show some (IntKind.u64.wrap (x 11+ofF (-16)))=_
   rw[h11];unfold ofF;rw[u64w,u64w];exact congrArg some (by omega)) ?_
  refine rn_ld hL (x:=sx (sx X3 6 262144) 29 ((8*(k-2):Nat):Int)) hx 32769 (by kernel_rfl:(rtL 0x50000)[109]?=some ⟨41,7,6,0,8⟩) rfl (by decide) ?_
  rw[hf]
  refine rn_sd hL (x:=X4) hx (k-1) (by kernel_rfl:(rtL 0x50000)[110]?=some ⟨44,0,29,7,8⟩) (by
   show IntKind.u64.wrap (((8*(k-2):Nat):Int)+ofF 8)=_
   exact(addw (b:=8) (by omega)).trans (by omega)) (by omega) (by omega) ?_
  refine rn_sd hL (x:=X4) hx 32769 (by kernel_rfl:(rtL 0x50000)[111]?=some ⟨44,0,6,29,8⟩) rfl (by decide) (by decide) ?_
  exact rn_j hL (x:=X4) hx 50 none (by kernel_rfl:(rtL 0x50000)[112]?=some ⟨53,0,0,0,-248⟩) (by
   show IntKind.u64.wrap (4*((112:Nat):Int)+ofF (-248))=_
   unfold ofF;rw[u64w,u64w];omega) h2
 ·rw[h4 r h6 h7]
  show X4 r=_
  show sx (sx (sx (sx (sx (sx (frX x i) 6 _) 6 _) 6 _) 6 _) 29 _) 7 _ r=_
  rw[sx_ne h7,sx_ne h29,sx_ne h6,sx_ne h6,sx_ne h6,sx_ne h6]
  exact frX_ne h6 h30
end
end Go.X
