import Derived.Test.YtkghggngmpmigaaD45
set_option linter.all false
namespace Go.X
open Go Go.Proofs
def Rm (L:List Ins) (N:Nat) (a b:RA):Prop:=∃ n,n<=N/\Rt L a n b
theorem rn_refl {L:List Ins}{N:Nat} (a:RA):Rm L N a a:=⟨0,Nat.zero_le _,.refl a⟩
theorem Rm.trans {L:List Ins}{N M:Nat}{a b c:RA} (h1:Rm L N a b) (h2:Rm L M b c):Rm L (N+M) a c:=by
 obtain⟨n,hn,h1⟩:=h1
 obtain⟨m,hm,h2⟩:=h2
 exact⟨n+m,by omega,h1.trans h2⟩
theorem Rm.mono {L:List Ins}{N M:Nat}{a b:RA} (h:Rm L N a b) (hNM:N<=M):Rm L M a b:=⟨h.choose,Nat.le_trans h.choose_spec.1 hNM,h.choose_spec.2⟩
theorem rn_one {L:List Ins}{N:Nat}{a b c:RA} (h1:Rt L a 1 b) (h2:Rm L N b c):Rm L (N+1) a c:=by
 obtain⟨m,hm,h2⟩:=h2
 exact⟨1+m,by omega,h1.trans h2⟩
theorem t45 (a b:Int):takenF 45 a b=((a==b)==true):=rfl
theorem t47 (a b:Int):takenF 47 a b=(decide (IntKind.i64.wrap a<IntKind.i64.wrap b)==true):=rfl
theorem t49 (a b:Int):takenF 49 a b=(decide (a<b)==true):=rfl
theorem t50 (a b:Int):takenF 50 a b=(decide (a<b)==false):=rfl
theorem jr_all:((List.range 150).all fun q=>bits2 .andNot .u64 (4*(q:Int)) 1==4*(q:Int))=true:=by kernel_rfl
section
variable {L:List Ins} (hL:RtL L){N p:Nat}{x d:Nat->Int}{b:RA}{rd rs1 rs2 imm:Int} (hx:x 0=0)
include hL hx
theorem rn_op {op:Int} (v:Int) (hi:(rtL 0x50000)[p]?=some ⟨op,rd,rs1,rs2,imm⟩) (hv:valF (amX ⟨p,x,d⟩) op ⟨rd,rs1,rs2,imm⟩=some v) (h:Rm L N ⟨p+1,sx x rd.toNat v,d⟩ b)
  (h19:19<=p:=by decide) (hm:p≠149:=by decide) (h1:plainB op=true:=by rfl) (hr:rd.toNat≠0:=by decide) (hn:nextF (amX ⟨p,x,d⟩) op ⟨rd,rs1,rs2,imm⟩=4*((p+1:Nat):Int):=by rfl):Rm L (N+1) ⟨p,x,d⟩ b :=
 rn_one (st_op hm hx ((hL p h19).trans hi) v h1 hr hn hv) h
theorem rn_ld (a:Nat) (hi:(rtL 0x50000)[p]?=some ⟨41,rd,rs1,rs2,imm⟩) (ha:IntKind.u64.wrap (x rs1.toNat+ofF imm)=8*(a:Int)) (hS:8*a+8<=2621440) (h:Rm L N ⟨p+1,sx x rd.toNat (d a),d⟩ b)
  (h19:19<=p:=by decide) (hm:p≠149:=by decide) (hr:rd.toNat≠0:=by decide) (hr2:rd.toNat<32:=by decide):Rm L (N+1) ⟨p,x,d⟩ b :=
 rn_one (st_ld hm hx ((hL p h19).trans hi) a rfl hr hr2 ha hS) h
theorem rn_sd (a:Nat) (hi:(rtL 0x50000)[p]?=some ⟨44,rd,rs1,rs2,imm⟩) (ha:IntKind.u64.wrap (x rs1.toNat+ofF imm)=8*(a:Int)) (hS:8*a+8<=2621440) (hC:262144<=8*a) (h:Rm L N ⟨p+1,x,ud d a (x rs2.toNat)⟩ b)
  (h19:19<=p:=by decide) (hm:p≠149:=by decide):Rm L (N+1) ⟨p,x,d⟩ b :=
 rn_one (st_sd hm hx ((hL p h19).trans hi) a rfl ha hS hC) h
theorem rn_br {op:Int} (q:Nat) (hi:(rtL 0x50000)[p]?=some ⟨op,rd,rs1,rs2,imm⟩) (hn:nextF (amX ⟨p,x,d⟩) op ⟨rd,rs1,rs2,imm⟩=4*(q:Int)) (h:Rm L N ⟨q,x,d⟩ b)
  (h19:19<=p:=by decide) (hm:p≠149:=by decide) (h1:plainB op=true:=by rfl) (hv:valF (amX ⟨p,x,d⟩) op ⟨rd,rs1,rs2,imm⟩=none:=by rfl):Rm L (N+1) ⟨p,x,d⟩ b:=by
 have s:=st_pl (S:=2621440) (C:=262144) (d:=d) hm hx ((hL p h19).trans hi) q none h1 hn hv
 rw[show putR x rd none=x from zero_x hx]at s
 exact rn_one s h
omit hL hx in
theorem nextF_br {m:MS}{op:Int}{c:Cand} (h:op=45\/op=46\/op=47\/op=48\/op=49\/op=50):nextF m op c=(bif takenF op (m.x c.rs1.toNat) (m.x c.rs2.toNat)then IntKind.u64.wrap (m.pl+ofF c.imm)else nxt m)/\plainB op=true/\valF m op c=none:=by
 rcases h with rfl|rfl|rfl|rfl|rfl|rfl<;>exact⟨rfl,rfl,rfl⟩
theorem rn_bn {op:Int}{u v:Int} (hi:(rtL 0x50000)[p]?=some ⟨op,rd,rs1,rs2,imm⟩) (hu:x rs1.toNat=u) (hv:x rs2.toNat=v) (ht:takenF op u v=false) (h:Rm L N ⟨p+1,x,d⟩ b)
  (h19:19<=p:=by decide) (hm:p≠149:=by decide) (hp:p<1000:=by decide) (ho:op=45\/op=46\/op=47\/op=48\/op=49\/op=50:=by decide):Rm L (N+1) ⟨p,x,d⟩ b:=by
 obtain⟨e1,e2,e3⟩:=nextF_br (m:=amX ⟨p,x,d⟩) (c:=⟨rd,rs1,rs2,imm⟩) ho
 refine rn_br hL hx (p+1) hi ?_ h h19 hm e2 e3
 rw[e1,show takenF op ((amX ⟨p,x,d⟩).x rs1.toNat) ((amX ⟨p,x,d⟩).x rs2.toNat)=false by rw[<- ht,<- hu,<- hv];rfl,cond_false]
 show IntKind.u64.wrap (4*(p:Int)+4)=_
 rw[u64w];omega
theorem rn_bt {op:Int}{u v:Int} (q:Nat) (hi:(rtL 0x50000)[p]?=some ⟨op,rd,rs1,rs2,imm⟩) (hu:x rs1.toNat=u) (hv:x rs2.toNat=v) (ht:takenF op u v=true) (hq:(4*(p:Int)+imm)=4*(q:Int)) (h:Rm L N ⟨q,x,d⟩ b)
  (h19:19<=p:=by decide) (hm:p≠149:=by decide) (hqq:q<1000:=by decide) (ho:op=45\/op=46\/op=47\/op=48\/op=49\/op=50:=by decide):Rm L (N+1) ⟨p,x,d⟩ b:=by
 obtain⟨e1,e2,e3⟩:=nextF_br (m:=amX ⟨p,x,d⟩) (c:=⟨rd,rs1,rs2,imm⟩) ho
 refine rn_br hL hx q hi ?_ h h19 hm e2 e3
 rw[e1,show takenF op ((amX ⟨p,x,d⟩).x rs1.toNat) ((amX ⟨p,x,d⟩).x rs2.toNat)=true by rw[<- ht,<- hu,<- hv];rfl,cond_true]
 show IntKind.u64.wrap (4*(p:Int)+ofF imm)=_
 unfold ofF
 rw[u64w,u64w];omega
theorem rn_j {op:Int} (q:Nat) (v:Option Int) (hi:(rtL 0x50000)[p]?=some ⟨op,0,rs1,rs2,imm⟩) (hn:nextF (amX ⟨p,x,d⟩) op ⟨0,rs1,rs2,imm⟩=4*(q:Int)) (h:Rm L N ⟨q,x,d⟩ b)
  (h19:19<=p:=by decide) (hm:p≠149:=by decide) (h1:plainB op=true:=by rfl):Rm L (N+1) ⟨p,x,d⟩ b:=by
 have s:=st_pl (S:=2621440) (C:=262144) (d:=d) hm hx ((hL p h19).trans hi) q _ h1 hn rfl
 have e:putR x 0 (valF (amX ⟨p,x,d⟩) op ⟨0,rs1,rs2,imm⟩)=x:=by
  cases valF (amX ⟨p,x,d⟩) op ⟨0,rs1,rs2,imm⟩with
  |none=>exact zero_x hx
  |some v=>exact putR_0 rfl hx
 rw[e]at s
 exact rn_one s h
theorem rn_jr (q:Nat) (hi:(rtL 0x50000)[p]?=some ⟨54,0,rs1,rs2,0⟩) (hq:q<150) (hr:x rs1.toNat=4*(q:Int)) (h:Rm L N ⟨q,x,d⟩ b) (h19:19<=p:=by decide) (hm:p≠149:=by decide):Rm L (N+1) ⟨p,x,d⟩ b:=by
 refine rn_j hL hx q none hi ?_ h h19 hm
 show bits2 .andNot .u64 (IntKind.u64.wrap (x rs1.toNat+ofF 0)) 1=_
 rw[hr,show IntKind.u64.wrap (4*(q:Int)+ofF 0)=4*(q:Int) by unfold ofF;rw[u64w,u64w];omega]
 exact eq_of_beq (List.all_eq_true.1 jr_all q (List.mem_range.2 hq))
theorem rn_jal (q:Nat) (hi:(rtL 0x50000)[p]?=some ⟨53,rd,rs1,rs2,imm⟩) (hn:nextF (amX ⟨p,x,d⟩) 53 ⟨rd,rs1,rs2,imm⟩=4*(q:Int)) (hp:p<1000) (h:Rm L N ⟨q,sx x rd.toNat (4*((p+1:Nat):Int)),d⟩ b)
  (h19:19<=p:=by decide) (hm:p≠149:=by decide) (hr:rd.toNat≠0:=by decide):Rm L (N+1) ⟨p,x,d⟩ b:=by
 have s:=st_pl (S:=2621440) (C:=262144) (d:=d) hm hx ((hL p h19).trans hi) q (some (4*((p+1:Nat):Int))) rfl hn (by
  show some (IntKind.u64.wrap (4*(p:Int)+4))=_
  rw[u64w];exact congrArg some (by omega))
 rw[putR_sx hr hx]at s
 exact rn_one s h
end
section
variable {L:List Ins} (hL:RtL L)
include hL
theorem lock_tail {x d:Nat->Int} (hx:x 0=0){t q key:Nat} (h6:x 6=262144) (h30:x 30=((8*t:Nat):Int)) (ht1:262144<=8*t) (ht2:8*t+24<=2621440) (h5:x 5=4*(q:Int)) (hq:q<150) (hk:d 32770=(key:Int)) (hk2:key<1000000) :
  Rm L 7 ⟨34,x,d⟩ ⟨q,sx (sx x 31 (key:Int)) 31 ((key+1:Nat):Int),ud (ud (ud (ud d 32770 ((key+1:Nat):Int)) t ((key+1:Nat):Int)) (t+1) 0) (t+2) 0⟩:=by
 have a6:∀ {c:Nat},c<100->IntKind.u64.wrap (x 6+ofF ((8*c:Nat):Int))=8*((32768+c:Nat):Int):=fun {c} hc=>by
  rw[h6];unfold ofF;rw[u64w,u64w];omega
 have a30:∀ {c:Nat},c<100->IntKind.u64.wrap (x 30+ofF ((8*c:Nat):Int))=8*((t+c:Nat):Int):=fun {c} hc=>by
  rw[h30];unfold ofF;rw[u64w,u64w];omega
 refine rn_ld hL hx 32770 (by kernel_rfl:(rtL 0x50000)[34]?=some ⟨41,31,6,0,16⟩) (a6 (c:=2) (by decide)) (by decide) ?_
 rw[hk]
 refine rn_op hL (x:=sx x 31 (key:Int)) hx ((key+1:Nat):Int) (by kernel_rfl:(rtL 0x50000)[35]?=some ⟨28,31,31,0,1⟩) (by
  show some (IntKind.u64.wrap ((key:Int)+ofF 1))=_
  exact congrArg some (addw (b:=1) (by omega))) ?_
 refine rn_sd hL (x:=sx (sx x 31 (key:Int)) 31 ((key+1:Nat):Int)) hx 32770 (by kernel_rfl:(rtL 0x50000)[36]?=some ⟨44,0,6,31,16⟩) (a6 (c:=2) (by decide)) (by decide) (by decide) ?_
 refine rn_sd hL (x:=sx (sx x 31 (key:Int)) 31 ((key+1:Nat):Int)) hx t (by kernel_rfl:(rtL 0x50000)[37]?=some ⟨44,0,30,31,0⟩) (a30 (c:=0) (by decide)) (by omega) ht1 ?_
 refine rn_sd hL (x:=sx (sx x 31 (key:Int)) 31 ((key+1:Nat):Int)) hx (t+1) (by kernel_rfl:(rtL 0x50000)[38]?=some ⟨44,0,30,0,8⟩) (a30 (c:=1) (by decide)) (by omega) (by omega) ?_
 refine rn_sd hL (x:=sx (sx x 31 (key:Int)) 31 ((key+1:Nat):Int)) hx (t+2) (by kernel_rfl:(rtL 0x50000)[39]?=some ⟨44,0,30,0,16⟩) (a30 (c:=2) (by decide)) (by omega) (by omega) ?_
 refine rn_jr hL (x:=sx (sx x 31 (key:Int)) 31 ((key+1:Nat):Int)) hx q (by kernel_rfl:(rtL 0x50000)[40]?=some ⟨54,0,5,0,0⟩) hq h5 ?_
 have e0:(sx (sx x 31 (key:Int)) 31 ((key+1:Nat):Int)) (Int.toNat 0)=0:=hx
 rw[e0]
 exact rn_refl _
end
def lkD (d:Nat->Int) (t key:Nat):Nat->Int:=ud (ud (ud (ud d 32770 (key:Int)) t (key:Int)) (t+1) 0) (t+2) 0
theorem sx_ne {x:Nat->Int}{r k:Nat}{v:Int} (h:r≠k):sx x k v r=x r:=by
 unfold sx;rw[beq_ff h];rfl
theorem ud_ne {d:Nat->Int}{a k:Nat}{v:Int} (h:k≠a):ud d a v k=d k:=by
 unfold ud;rw[beq_ff h];rfl
theorem ud_eq {d:Nat->Int}{a:Nat}{v:Int}:ud d a v a=v:=by
 unfold ud;rw[beq_dec,decide_eq_true rfl];rfl
section
variable {L:List Ins} (hL:RtL L){x d:Nat->Int} (hx:x 0=0){t q key:Nat}
include hL hx
theorem lock_new (h5:x 5=4*(q:Int)) (hq:q<150) (hl:d 32772=0) (ha:d 32771=((8*t:Nat):Int)) (ht1:262144<=8*t) (ht2:8*t<327680) (hk:d 32770=(key:Int)) (hk2:key<1000000) (h71:32772<t) :
  ∃ x',Rm L 15 ⟨23,x,d⟩ ⟨q,x',lkD (ud d 32771 ((8*(t+4):Nat):Int)) t (key+1)⟩/\x' 30=((8*t:Nat):Int)/\x' 31=((key+1:Nat):Int)/\x' 0=0/\∀ r,r≠6->r≠7->r≠30->r≠31->x' r=x r:=by
 refine⟨sx (sx (sx (sx (sx (sx (sx x 6 262144) 30 0) 30 ((8*t:Nat):Int)) 7 327680) 7 ((8*(t+4):Nat):Int)) 31 (key:Int)) 31 ((key+1:Nat):Int),rn_op hL hx 262144 (by kernel_rfl:(rtL 0x50000)[23]?=some ⟨51,6,0,0,64⟩) rfl ?_,?_⟩
 ·refine rn_ld hL (x:=sx x 6 262144) hx 32772 (by kernel_rfl:(rtL 0x50000)[24]?=some ⟨41,30,6,0,32⟩) rfl (by decide) ?_
  rw[hl]
  refine rn_bt hL (x:=sx (sx x 6 262144) 30 0) hx 29 (by kernel_rfl:(rtL 0x50000)[25]?=some ⟨45,0,30,0,16⟩) rfl hx rfl rfl ?_
  refine rn_ld hL (x:=sx (sx x 6 262144) 30 0) hx 32771 (by kernel_rfl:(rtL 0x50000)[29]?=some ⟨41,30,6,0,24⟩) rfl (by decide) ?_
  rw[ha]
  refine rn_op hL (x:=sx (sx (sx x 6 262144) 30 0) 30 ((8*t:Nat):Int)) hx 327680 (by kernel_rfl:(rtL 0x50000)[30]?=some ⟨51,7,0,0,80⟩) rfl ?_
  refine rn_bn hL (x:=sx (sx (sx (sx x 6 262144) 30 0) 30 ((8*t:Nat):Int)) 7 327680) hx (by kernel_rfl:(rtL 0x50000)[31]?=some ⟨50,0,30,7,-40⟩) (u:=((8*t:Nat):Int)) (v:=327680) rfl rfl (by
   rw[t50,decide_eq_true (by omega)];rfl) ?_
  refine rn_op hL (x:=sx (sx (sx (sx x 6 262144) 30 0) 30 ((8*t:Nat):Int)) 7 327680) hx ((8*(t+4):Nat):Int) (by kernel_rfl:(rtL 0x50000)[32]?=some ⟨28,7,30,0,32⟩) (by
   show some (IntKind.u64.wrap (((8*t:Nat):Int)+ofF 32))=_
   exact congrArg some ((addw (b:=32) (by omega)).trans (by omega))) ?_
  refine rn_sd hL (x:=sx (sx (sx (sx (sx x 6 262144) 30 0) 30 ((8*t:Nat):Int)) 7 327680) 7 ((8*(t+4):Nat):Int)) hx 32771 (by kernel_rfl:(rtL 0x50000)[33]?=some ⟨44,0,6,7,24⟩) rfl (by decide) (by decide) ?_
  exact lock_tail hL (x:=sx (sx (sx (sx (sx x 6 262144) 30 0) 30 ((8*t:Nat):Int)) 7 327680) 7 ((8*(t+4):Nat):Int)) (d:=ud d 32771 ((8*(t+4):Nat):Int)) hx rfl rfl ht1 (by omega) h5 hq ((ud_ne (by decide)).trans hk) hk2
 ·refine⟨rfl,rfl,hx,fun r h6 h7 h30 h31=>?_⟩
  rw[sx_ne h31,sx_ne h31,sx_ne h7,sx_ne h7,sx_ne h30,sx_ne h30,sx_ne h6]
theorem lock_old {nx:Int} (h5:x 5=4*(q:Int)) (hq:q<150) (hl:d 32772=((8*t:Nat):Int)) (hn:d (t+3)=nx) (ht1:262144<=8*t) (ht2:8*t<327680) (hk:d 32770=(key:Int)) (hk2:key<1000000) (h71:32772<t) :
  ∃ x',Rm L 13 ⟨23,x,d⟩ ⟨q,x',lkD (ud d 32772 nx) t (key+1)⟩/\x' 30=((8*t:Nat):Int)/\x' 31=((key+1:Nat):Int)/\x' 0=0/\∀ r,r≠6->r≠7->r≠30->r≠31->x' r=x r:=by
 refine⟨sx (sx (sx (sx (sx x 6 262144) 30 ((8*t:Nat):Int)) 7 nx) 31 (key:Int)) 31 ((key+1:Nat):Int),rn_op hL hx 262144 (by kernel_rfl:(rtL 0x50000)[23]?=some ⟨51,6,0,0,64⟩) rfl ?_,?_⟩
 ·refine rn_ld hL (x:=sx x 6 262144) hx 32772 (by kernel_rfl:(rtL 0x50000)[24]?=some ⟨41,30,6,0,32⟩) rfl (by decide) ?_
  rw[hl]
  refine rn_bn hL (x:=sx (sx x 6 262144) 30 ((8*t:Nat):Int)) hx (by kernel_rfl:(rtL 0x50000)[25]?=some ⟨45,0,30,0,16⟩) (u:=((8*t:Nat):Int)) (v:=0) rfl hx (by
   have:(((8*t:Nat):Int)==0)=false:=by simp;omega
   rw[t45,this];rfl) ?_
  refine rn_ld hL (x:=sx (sx x 6 262144) 30 ((8*t:Nat):Int)) hx (t+3) (by kernel_rfl:(rtL 0x50000)[26]?=some ⟨41,7,30,0,24⟩) (by
   show IntKind.u64.wrap (((8*t:Nat):Int)+ofF 24)=_
   exact(addw (b:=24) (by omega)).trans (by omega)) (by omega) ?_
  rw[hn]
  refine rn_sd hL (x:=sx (sx (sx x 6 262144) 30 ((8*t:Nat):Int)) 7 nx) hx 32772 (by kernel_rfl:(rtL 0x50000)[27]?=some ⟨44,0,6,7,32⟩) rfl (by decide) (by decide) ?_
  refine rn_j hL (x:=sx (sx (sx x 6 262144) 30 ((8*t:Nat):Int)) 7 nx) hx 34 none (by kernel_rfl:(rtL 0x50000)[28]?=some ⟨53,0,0,0,24⟩) rfl ?_
  exact lock_tail hL (x:=sx (sx (sx x 6 262144) 30 ((8*t:Nat):Int)) 7 nx) (d:=ud d 32772 nx) hx rfl rfl ht1 (by omega) h5 hq ((ud_ne (by decide)).trans hk) hk2
 ·refine⟨rfl,rfl,hx,fun r h6 h7 h30 h31=>?_⟩
  rw[sx_ne h31,sx_ne h31,sx_ne h7,sx_ne h30,sx_ne h6]
end
theorem sh5:2 ^ min (bits2 .and .u64 (ofF 5) 63).toNat 64=(32:Int):=by kernel_rfl
theorem sh2:2 ^ min (bits2 .and .u64 (ofF 2) 63).toNat 64=(4:Int):=by kernel_rfl
theorem sll5 (a:Int):doF (plainF 34) a (ofF 5)=IntKind.u64.wrap (a*32):=by
 show IntKind.u64.wrap (a*2 ^ min (bits2 .and .u64 (ofF 5) 63).toNat 64)=_
 rw[sh5]
theorem sll2 (a:Int):doF (plainF 34) a (ofF 2)=IntKind.u64.wrap (a*4):=by
 show IntKind.u64.wrap (a*2 ^ min (bits2 .and .u64 (ofF 2) 63).toNat 64)=_
 rw[sh2]
theorem srl5 (a:Int):doF (plainF 35) a (ofF 5)=a.fdiv 32:=by
 show a.fdiv (2 ^ min (bits2 .and .u64 (ofF 5) 63).toNat 64)=_
 rw[sh5]
section
variable {L:List Ins} (hL:RtL L){x d:Nat->Int} (hx:x 0=0)
include hL hx
theorem enter_tail {i q:Nat}{key:Int} (hi:i<10000) (h30:x 30=((8*(33280+4*i):Nat):Int)) (h31:x 31=key) (hk:0<=key/\key<1000000) (h1:x 1=4*(q:Int)) (hq:q<150) :
  ∃ x',Rm L 5 ⟨42,x,d⟩ ⟨q,x',d⟩/\x' 10=key/\x' 11=(i:Int)/\x' 0=0/\∀ r,r≠6->r≠10->r≠11->x' r=x r:=by
 refine⟨sx (sx (sx (sx x 10 key) 6 266240) 11 ((32*i:Nat):Int)) 11 (i:Int),?_,rfl,rfl,hx,fun r h6 h10 h11=>?_⟩
 ·refine rn_op hL hx key (by kernel_rfl:(rtL 0x50000)[42]?=some ⟨28,10,31,0,0⟩) (by
   show some (IntKind.u64.wrap (x 31+ofF 0))=_
   rw[h31];unfold ofF;rw[u64w,u64w];exact congrArg some (by omega)) ?_
  refine rn_op hL (x:=sx x 10 key) hx 266240 (by kernel_rfl:(rtL 0x50000)[43]?=some ⟨51,6,0,0,65⟩) rfl ?_
  refine rn_op hL (x:=sx (sx x 10 key) 6 266240) hx ((32*i:Nat):Int) (by kernel_rfl:(rtL 0x50000)[44]?=some ⟨2,11,30,6,0⟩) (by
   show some (IntKind.u64.wrap (x 30-266240))=_
   rw[h30,u64w];exact congrArg some (by omega)) ?_
  refine rn_op hL (x:=sx (sx (sx x 10 key) 6 266240) 11 ((32*i:Nat):Int)) hx (i:Int) (by kernel_rfl:(rtL 0x50000)[45]?=some ⟨35,11,11,0,5⟩) (by
   show some (doF (plainF 35) ((32*i:Nat):Int) (ofF 5))=_
   rw[srl5,Int.fdiv_eq_ediv_of_nonneg _ (by omega)];exact congrArg some (by omega)) ?_
  exact rn_jr hL (x:=sx (sx (sx (sx x 10 key) 6 266240) 11 ((32*i:Nat):Int)) 11 (i:Int)) hx q (by kernel_rfl:(rtL 0x50000)[46]?=some ⟨54,0,1,0,0⟩) hq h1 (rn_refl _)
 ·rw[sx_ne h11,sx_ne h11,sx_ne h6,sx_ne h10]
def rlD (d:Nat->Int) (t:Nat) (h:Int):Nat->Int:=ud (ud (ud d t 0) (t+3) h) 32772 ((8*t:Nat):Int)
theorem release {t q:Nat}{h:Int} (h30:x 30=((8*t:Nat):Int)) (ht1:262144<=8*t) (ht2:8*t<327680) (hh:d 32772=h) (h1:x 1=4*(q:Int)) (hq:q<150) (h71:32772<t) :
  ∃ x',Rm L 6 ⟨50,x,d⟩ ⟨q,x',rlD d t h⟩/\x' 0=0/\∀ r,r≠6->r≠7->x' r=x r:=by
 refine⟨sx (sx x 6 262144) 7 h,?_,hx,fun r h6 h7=>by rw[sx_ne h7,sx_ne h6]⟩
 refine rn_op hL hx 262144 (by kernel_rfl:(rtL 0x50000)[50]?=some ⟨51,6,0,0,64⟩) rfl ?_
 refine rn_ld hL (x:=sx x 6 262144) hx 32772 (by kernel_rfl:(rtL 0x50000)[51]?=some ⟨41,7,6,0,32⟩) rfl (by decide) ?_
 rw[hh]
 have a30:∀ {c:Nat},c<100->IntKind.u64.wrap (x 30+ofF ((8*c:Nat):Int))=8*((t+c:Nat):Int):=fun {c} hc=>by
  rw[h30];unfold ofF;rw[u64w,u64w];omega
 refine rn_sd hL (x:=sx (sx x 6 262144) 7 h) hx t (by kernel_rfl:(rtL 0x50000)[52]?=some ⟨44,0,30,0,0⟩) (a30 (c:=0) (by decide)) (by omega) ht1 ?_
 refine rn_sd hL (x:=sx (sx x 6 262144) 7 h) hx (t+3) (by kernel_rfl:(rtL 0x50000)[53]?=some ⟨44,0,30,7,24⟩) (a30 (c:=3) (by decide)) (by omega) (by omega) ?_
 refine rn_sd hL (x:=sx (sx x 6 262144) 7 h) hx 32772 (by kernel_rfl:(rtL 0x50000)[54]?=some ⟨44,0,6,30,32⟩) rfl (by decide) (by decide) ?_
 refine rn_jr hL (x:=sx (sx x 6 262144) 7 h) hx q (by kernel_rfl:(rtL 0x50000)[55]?=some ⟨54,0,1,0,0⟩) hq h1 ?_
 have e0:(sx (sx x 6 262144) 7 h) (Int.toNat 0)=0:=hx
 have e1:(sx (sx x 6 262144) 7 h) (Int.toNat 30)=((8*t:Nat):Int):=h30
 have e2:(sx (sx x 6 262144) 7 h) (Int.toNat 7)=h:=rfl
 rw[e0,e1,e2]
 exact rn_refl _
theorem leave {i q:Nat}{h:Int} (hi:i<1900) (hi0:0<i) (h10:x 10=(i:Int)) (hh:d 32772=h) (h1:x 1=4*(q:Int)) (hq:q<150) :
  ∃ x',Rm L 9 ⟨47,x,d⟩ ⟨q,x',rlD d (33280+4*i) h⟩/\x' 0=0/\∀ r,r≠6->r≠7->r≠30->x' r=x r:=by
 obtain⟨x',h2,h3,h4⟩:=release hL (x:=sx (sx (sx x 30 ((32*i:Nat):Int)) 6 266240) 30 ((8*(33280+4*i):Nat):Int)) (d:=d) hx (t:=33280+4*i) (q:=q) rfl (by omega) (by omega) hh h1 hq (by omega)
 refine⟨x',?_,h3,fun r h6 h7 h30=>by rw[h4 r h6 h7,sx_ne h30,sx_ne h6,sx_ne h30]⟩
 refine rn_op hL hx ((32*i:Nat):Int) (by kernel_rfl:(rtL 0x50000)[47]?=some ⟨34,30,10,0,5⟩) (by
  show some (doF (plainF 34) (x 10) (ofF 5))=_
  rw[sll5,h10,u64w];exact congrArg some (by omega)) ?_
 refine rn_op hL (x:=sx x 30 ((32*i:Nat):Int)) hx 266240 (by kernel_rfl:(rtL 0x50000)[48]?=some ⟨51,6,0,0,65⟩) rfl ?_
 refine rn_op hL (x:=sx (sx x 30 ((32*i:Nat):Int)) 6 266240) hx ((8*(33280+4*i):Nat):Int) (by kernel_rfl:(rtL 0x50000)[49]?=some ⟨1,30,30,6,0⟩) (by
  show some (IntKind.u64.wrap (((32*i:Nat):Int)+266240))=_
  rw[u64w];exact congrArg some (by omega)) h2
end
def shK (k:Nat):Nat:=4*(k-40960)+98304
def shX (x:Nat->Int) (k:Nat):Nat->Int:=sx (sx (sx (sx (sx x 6 327680) 30 ((8*(k-40960):Nat):Int)) 30 ((8*(4*(k-40960)):Nat):Int)) 6 786432) 30 ((8*shK k:Nat):Int)
theorem shX_ne {x:Nat->Int}{k r:Nat} (h6:r≠6) (h30:r≠30):shX x k r=x r:=by
 unfold shX;rw[sx_ne h30,sx_ne h6,sx_ne h30,sx_ne h30,sx_ne h6]
section
variable {L:List Ins} (hL:RtL L){x d:Nat->Int} (hx:x 0=0){k q:Nat} (h10:x 10=((8*k:Nat):Int)) (hk1:40960<=k) (hk2:k<73728) (h1:x 1=4*(q:Int)) (hq:q<150)
include hL hx h10 hk1 hk2
include h1 hq
theorem clear_ok {n:Nat} (h11:x 11=((8*n:Nat):Int)) (hn:k+n<=73728):∃ x',Rm L (9*n+8) ⟨133,x,d⟩ ⟨q,x',clr d k (shK k) n⟩/\x' 0=0/\∀ r,r≠6->r≠30->r≠10->r≠11->x' r=x r:=by
 obtain⟨x',h2,h3⟩:=clr_loop hL n (k:=k) (j:=shK k) (x:=sx (shX x k) 11 ((8*(k+n):Nat):Int)) (d:=d) hx h10 rfl rfl (by omega) (by omega) (by unfold shK;omega) (by unfold shK;omega)
 refine⟨x',?_,by rw[h3 0 (by decide) (by decide)];exact hx,fun r h6 h30 h10 h11=>by rw[h3 r h10 h30,sx_ne h11];exact shX_ne h6 h30⟩
 refine Rm.mono (N:=(9*n+1+1)+1+5) ?_ (by omega)
 refine rn_op hL hx 327680 (by kernel_rfl:(rtL 0x50000)[133]?=some ⟨51,6,0,0,80⟩) rfl ?_
 refine rn_op hL (x:=sx x 6 327680) hx ((8*(k-40960):Nat):Int) (by kernel_rfl:(rtL 0x50000)[134]?=some ⟨2,30,10,6,0⟩) (by
  show some (IntKind.u64.wrap (x 10-327680))=_
  rw[h10,u64w];exact congrArg some (by omega)) ?_
 refine rn_op hL (x:=sx (sx x 6 327680) 30 ((8*(k-40960):Nat):Int)) hx ((8*(4*(k-40960)):Nat):Int) (by kernel_rfl:(rtL 0x50000)[135]?=some ⟨34,30,30,0,2⟩) (by
  show some (doF (plainF 34) ((8*(k-40960):Nat):Int) (ofF 2))=_
  rw[sll2,u64w];exact congrArg some (by omega)) ?_
 refine rn_op hL (x:=sx (sx (sx x 6 327680) 30 ((8*(k-40960):Nat):Int)) 30 ((8*(4*(k-40960)):Nat):Int)) hx 786432 (by kernel_rfl:(rtL 0x50000)[136]?=some ⟨51,6,0,0,192⟩) rfl ?_
 refine rn_op hL (x:=sx (sx (sx (sx x 6 327680) 30 ((8*(k-40960):Nat):Int)) 30 ((8*(4*(k-40960)):Nat):Int)) 6 786432) hx ((8*shK k:Nat):Int) (by kernel_rfl:(rtL 0x50000)[137]?=some ⟨1,30,30,6,0⟩) (by
  show some (IntKind.u64.wrap (((8*(4*(k-40960)):Nat):Int)+786432))=_
  rw[u64w];unfold shK;exact congrArg some (by omega)) ?_
 show Rm L _ ⟨138,shX x k,d⟩ _
 refine rn_op hL (x:=shX x k) hx ((8*(k+n):Nat):Int) (by kernel_rfl:(rtL 0x50000)[138]?=some ⟨1,11,10,11,0⟩) (by
  show some (IntKind.u64.wrap (x 10+x 11))=_
  rw[h10,h11,u64w];exact congrArg some (by omega)) ?_
 refine Rm.trans (N:=9*n+1) (M:=1) ⟨9*n+1,Nat.le_refl _,h2⟩ ?_
 exact rn_jr hL (x:=x') (N:=0) (by rw[h3 0 (by decide) (by decide)];exact hx) q (by kernel_rfl:(rtL 0x50000)[148]?=some ⟨54,0,1,0,0⟩) hq ((h3 1 (by decide) (by decide)).trans h1) (rn_refl _)
end
section
variable {L:List Ins} (hL:RtL L){x d:Nat->Int} (hx:x 0=0){i:Nat} (hi:i<1900) (hi0:0<i) (h14:x 14=(i:Int))
include hL hx hi hi0 h14
end
theorem addi0 {a:Int} (h:uB a=true):IntKind.u64.wrap (a+ofF 0)=a:=by
 have:=uB_iff.1 h
 unfold ofF;rw[u64w,u64w];omega
section
variable {L:List Ins} (hL:RtL L){x d:Nat->Int} (hx:x 0=0){k m n q i:Nat}{key:Int}{d2:Nat->Int}
include hL hx
theorem got_ok (h10:x 10=(n:Int)) (h29:x 29=((8*(k-2):Nat):Int)) (h14:x 14=((8*(m+2):Nat):Int)) (h1:x 1=4*(q:Int)) (hq:q<150) (hk:40962<=k) (hkm:k+m<=73728) (hm0:0<m) (hn:n<10000000) (hi:i<1900) (hi0:0<i) (hkey:0<=key/\key<1000000)
  (hlock:∀ {y:Nat->Int},y 0=0->y 5=4*((87:Nat):Int)->∃ x',Rm L 15 ⟨23,y,clr d k (shK k) m⟩ ⟨87,x',d2⟩/\x' 30=((8*(33280+4*i):Nat):Int)/\x' 31=key/\x' 0=0/\∀ r,r≠6->r≠7->r≠30->r≠31->x' r=y r) :
  ∃ x',Rm L (9*m+45) ⟨79,x,d⟩ ⟨q,x',ud (ud d2 (33280+4*i+1) ((8*k:Nat):Int)) (33280+4*i+2) ((8*k+n:Nat):Int)⟩/\x' 0=0/\x' 10=((8*k:Nat):Int)/\x' 11=((8*k:Nat):Int)/\x' 12=((8*k+n:Nat):Int)/\x' 13=key/\x' 14=(i:Int) /\
   ∀ r,r≠1->r≠5->r≠6->r≠7->r≠10->r≠11->r≠12->r≠13->r≠14->r≠29->r≠30->r≠31->x' r=x r:=by
 let Y:=sx (sx (sx (sx (sx (sx x 13 (n:Int)) 12 (4*(q:Int))) 10 ((8*k:Nat):Int)) 11 ((8*m:Nat):Int)) 29 ((8*k:Nat):Int)) 1 (4*((85:Nat):Int))
 obtain⟨y1,c1,c2,c3⟩:=clear_ok hL (x:=Y) (d:=d) hx (k:=k) (q:=85) (n:=m) rfl (by omega) (by omega) rfl (by decide) rfl hkm
 obtain⟨y2,l1,l2,l3,l4,l5⟩:=hlock (y:=sx (sx y1 1 (4*(q:Int))) 5 (4*((87:Nat):Int))) c2 rfl
 have f29:y2 29=((8*k:Nat):Int):=by
  rw[l5 29 (by decide) (by decide) (by decide) (by decide),sx_ne (by decide),sx_ne (by decide),c3 29 (by decide) (by decide) (by decide) (by decide)];rfl
 have f13:y2 13=(n:Int):=by
  rw[l5 13 (by decide) (by decide) (by decide) (by decide),sx_ne (by decide),sx_ne (by decide),c3 13 (by decide) (by decide) (by decide) (by decide)];rfl
 have f1:y2 1=4*(q:Int):=by
  rw[l5 1 (by decide) (by decide) (by decide) (by decide),sx_ne (by decide)];rfl
 let Z1:=sx (sx (sx y2 10 ((8*k:Nat):Int)) 11 ((8*k:Nat):Int)) 12 ((8*k+n:Nat):Int)
 let Z2:=sx (sx (sx (sx Z1 13 key) 6 266240) 14 ((32*i:Nat):Int)) 14 (i:Int)
 have b8:uB ((8*k:Nat):Int)=true:=uB_iff.2 ⟨by omega,by omega⟩
 refine⟨Z2,?_,l4,rfl,rfl,rfl,rfl,rfl,fun r r1 r5 r6 r7 r10 r11 r12 r13 r14 r29 r30 r31=>?_⟩
 ·refine Rm.mono (N:=(9*m+8+(15+10+1+1)+1)+1+1+1+1+1) ?_ (by omega)
  refine rn_op hL hx (n:Int) (by kernel_rfl:(rtL 0x50000)[79]?=some ⟨28,13,10,0,0⟩) (by
   show some (IntKind.u64.wrap (x 10+ofF 0))=_
   rw[h10];exact congrArg some ((addw (b:=0) (by omega)).trans rfl)) ?_
  refine rn_op hL (x:=sx x 13 (n:Int)) hx (4*(q:Int)) (by kernel_rfl:(rtL 0x50000)[80]?=some ⟨28,12,1,0,0⟩) (by
   show some (IntKind.u64.wrap (x 1+ofF 0))=_
   rw[h1];exact congrArg some (addi0 (uB_iff.2 ⟨by omega,by omega⟩))) ?_
  refine rn_op hL (x:=sx (sx x 13 (n:Int)) 12 (4*(q:Int))) hx ((8*k:Nat):Int) (by kernel_rfl:(rtL 0x50000)[81]?=some ⟨28,10,29,0,16⟩) (by
   show some (IntKind.u64.wrap (x 29+ofF 16))=_
   rw[h29];exact congrArg some ((addw (b:=16) (by omega)).trans (by omega))) ?_
  refine rn_op hL (x:=sx (sx (sx x 13 (n:Int)) 12 (4*(q:Int))) 10 ((8*k:Nat):Int)) hx ((8*m:Nat):Int) (by kernel_rfl:(rtL 0x50000)[82]?=some ⟨28,11,14,0,-16⟩) (by
   show some (IntKind.u64.wrap (x 14+ofF (-16)))=_
   rw[h14];unfold ofF;rw[u64w,u64w];exact congrArg some (by omega)) ?_
  refine rn_op hL (x:=sx (sx (sx (sx x 13 (n:Int)) 12 (4*(q:Int))) 10 ((8*k:Nat):Int)) 11 ((8*m:Nat):Int)) hx ((8*k:Nat):Int) (by kernel_rfl:(rtL 0x50000)[83]?=some ⟨28,29,10,0,0⟩) (by
   show some (IntKind.u64.wrap (((8*k:Nat):Int)+ofF 0))=_
   exact congrArg some (addi0 b8)) ?_
  refine rn_jal hL (x:=sx (sx (sx (sx (sx x 13 (n:Int)) 12 (4*(q:Int))) 10 ((8*k:Nat):Int)) 11 ((8*m:Nat):Int)) 29 ((8*k:Nat):Int)) hx 133 (by kernel_rfl:(rtL 0x50000)[84]?=some ⟨53,1,0,0,196⟩) (by
   show IntKind.u64.wrap (4*((84:Nat):Int)+ofF 196)=_
   unfold ofF;rw[u64w,u64w];omega) (by decide) ?_
  refine Rm.trans (N:=9*m+8) (M:=15+10+1+1) c1 ?_
  refine rn_op hL (x:=y1) c2 (4*(q:Int)) (by kernel_rfl:(rtL 0x50000)[85]?=some ⟨28,1,12,0,0⟩) (by
   show some (IntKind.u64.wrap (y1 12+ofF 0))=_
   rw[c3 12 (by decide) (by decide) (by decide) (by decide)]
   exact congrArg some (addi0 (a:=4*(q:Int)) (uB_iff.2 ⟨by omega,by omega⟩))) ?_
  refine rn_jal hL (x:=sx y1 1 (4*(q:Int))) c2 23 (by kernel_rfl:(rtL 0x50000)[86]?=some ⟨53,5,0,0,-252⟩) (by
   show IntKind.u64.wrap (4*((86:Nat):Int)+ofF (-252))=_
   unfold ofF;rw[u64w,u64w];omega) (by decide) ?_
  refine Rm.trans (N:=15) (M:=10) l1 ?_
  have a30:∀ {z:Nat->Int}{c:Nat},z 30=y2 30->c<100->IntKind.u64.wrap (z 30+ofF ((8*c:Nat):Int))=8*((33280+4*i+c:Nat):Int):=fun {z c} hz hc=>by
   rw[hz,l2];unfold ofF;rw[u64w,u64w];omega
  refine rn_op hL (x:=y2) l4 ((8*k:Nat):Int) (by kernel_rfl:(rtL 0x50000)[87]?=some ⟨28,10,29,0,0⟩) (by
   show some (IntKind.u64.wrap (y2 29+ofF 0))=_
   rw[f29];exact congrArg some (addi0 b8)) ?_
  refine rn_op hL (x:=sx y2 10 ((8*k:Nat):Int)) l4 ((8*k:Nat):Int) (by kernel_rfl:(rtL 0x50000)[88]?=some ⟨28,11,29,0,0⟩) (by
   show some (IntKind.u64.wrap (y2 29+ofF 0))=_
   rw[f29];exact congrArg some (addi0 b8)) ?_
  refine rn_op hL (x:=sx (sx y2 10 ((8*k:Nat):Int)) 11 ((8*k:Nat):Int)) l4 ((8*k+n:Nat):Int) (by kernel_rfl:(rtL 0x50000)[89]?=some ⟨1,12,29,13,0⟩) (by
   show some (IntKind.u64.wrap (y2 29+y2 13))=_
   rw[f29,f13,u64w];exact congrArg some (by omega)) ?_
  refine rn_sd hL (x:=Z1) l4 (33280+4*i+1) (by kernel_rfl:(rtL 0x50000)[90]?=some ⟨44,0,30,11,8⟩) (a30 (z:=Z1) (c:=1) rfl (by decide)) (by omega) (by omega) ?_
  refine rn_sd hL (x:=Z1) l4 (33280+4*i+2) (by kernel_rfl:(rtL 0x50000)[91]?=some ⟨44,0,30,12,16⟩) (a30 (z:=Z1) (c:=2) rfl (by decide)) (by omega) (by omega) ?_
  refine rn_op hL (x:=Z1) l4 key (by kernel_rfl:(rtL 0x50000)[92]?=some ⟨28,13,31,0,0⟩) (by
   show some (IntKind.u64.wrap (y2 31+ofF 0))=_
   rw[l3];exact congrArg some (addi0 (uB_iff.2 ⟨hkey.1,by omega⟩))) ?_
  refine rn_op hL (x:=sx Z1 13 key) l4 266240 (by kernel_rfl:(rtL 0x50000)[93]?=some ⟨51,6,0,0,65⟩) rfl ?_
  refine rn_op hL (x:=sx (sx Z1 13 key) 6 266240) l4 ((32*i:Nat):Int) (by kernel_rfl:(rtL 0x50000)[94]?=some ⟨2,14,30,6,0⟩) (by
   show some (IntKind.u64.wrap (y2 30-266240))=_
   rw[l2,u64w];exact congrArg some (by omega)) ?_
  refine rn_op hL (x:=sx (sx (sx Z1 13 key) 6 266240) 14 ((32*i:Nat):Int)) l4 (i:Int) (by kernel_rfl:(rtL 0x50000)[95]?=some ⟨35,14,14,0,5⟩) (by
   show some (doF (plainF 35) ((32*i:Nat):Int) (ofF 5))=_
   rw[srl5,Int.fdiv_eq_ediv_of_nonneg _ (by omega)];exact congrArg some (by omega)) ?_
  exact rn_jr hL (x:=Z2) l4 q (by kernel_rfl:(rtL 0x50000)[96]?=some ⟨54,0,1,0,0⟩) hq f1 (rn_refl _)
 ·show sx (sx (sx (sx (sx (sx (sx y2 10 _) 11 _) 12 _) 13 _) 6 _) 14 _) 14 _ r=_
  rw[sx_ne r14,sx_ne r14,sx_ne r6,sx_ne r13,sx_ne r12,sx_ne r11,sx_ne r10,l5 r r6 r7 r30 r31,sx_ne r5,sx_ne r1,c3 r r6 r30 r10 r11]
  show sx (sx (sx (sx (sx (sx x 13 _) 12 _) 10 _) 11 _) 29 _) 1 _ r=_
  rw[sx_ne r1,sx_ne r29,sx_ne r11,sx_ne r10,sx_ne r12,sx_ne r13]
end
theorem m16_bits:∀ i:Fin 64,(18446744073709551600#64).getLsbD i.val=decide (4<=i.val):=by decide
theorem and_m16 (x:BitVec 64):x &&& 18446744073709551600#64=(x >>> 4) <<< 4:=by
 apply BitVec.eq_of_getLsbD_eq
 intro i hi
 have h:=m16_bits ⟨i,hi⟩
 simp only at h
 rw[BitVec.getLsbD_and,h,BitVec.getLsbD_shiftLeft,BitVec.getLsbD_ushiftRight]
 by_cases h4:4<=i
 ·rw[decide_eq_true h4,decide_eq_true hi,decide_eq_false (by omega),show 4+(i-4)=i by omega];simp
 ·rw[decide_eq_false h4,decide_eq_true (show i<4 by omega)];simp
theorem and16 {s:Nat} (h:s<9000000000000000000):bits2 .and .u64 (s:Int) (ofF (-16))=((s / 16*16:Nat):Int):=by
 have e:BitVec.ofInt 64 (ofF (-16))=18446744073709551600#64:=by
  have:ofF (-16)=18446744073709551600:=by unfold ofF;rw[u64w];rfl
  rw[this];rfl
 show IntKind.u64.wrap (BitVec.ofInt 64 (s:Int) &&& BitVec.ofInt 64 (ofF (-16))).toNat=_
 rw[e,and_m16,BitVec.toNat_shiftLeft,BitVec.toNat_ushiftRight,Nat.shiftRight_eq_div_pow,Nat.shiftLeft_eq,u64w]
 have hs:(BitVec.ofInt 64 (s:Int)).toNat=s:=by
  rw[BitVec.toNat_ofInt];omega
 rw[hs];omega
end Go.X
