import Derived.Test.YtnekegldodbgjaaM26
import Derived.Test.YtnekegldodbgjaaM24
import Derived.Test.YtnekegldodbgjaaM23
set_option linter.all false
namespace Go.X
open Go Go.Proofs
theorem decA_some {w q:Int}{c:Cand} (h:decF w=some (q,c)):decA w=⟨q,c,0⟩:=by unfold decA;rw[h]
theorem decA_none {w:Int} (h:decF w=none):decA w=⟨0,⟨0,0,0,0⟩,2⟩:=by unfold decA;rw[h]
theorem bd20 (w:Int) (hu:DecU w):Body Try.prog 20 [.int .u32 w] [] (decA w).v [(100,some (decA w).b)] 100 1:=by
 refine body_code mixed fn20 fb20 rt20 nm20 nt20 (show 1<=124 by decide) fun ρ0 w0 hd a0 wd hr0=>?_
 let E:FEnv:=envOf Try.prog 124 100 [] mixed ρ0 w0 hd
 change body20.wp Try.prog (E.toEnv.post (finP E.toEnv rts20 [] (decA w).v [(100,some (decA w).b)] 1)) a0 wd
 rw[shape3]
 refine wp_seq (wp_mono ((xwp_exec (E:=E) (Q:=fun e s=>e=.normal/\s=⟨t1 w,hS,101⟩) FOKB 10 [] (s:=⟨argTm 0 [.int .u32 w],[],100⟩) (e20_0 w) rfl ⟨rfl,rfl⟩) _ comp20_0 a0 wd hr0) ?_)
 rintro e a1 w1 ⟨s1,⟨rfl,rfl⟩,hr1⟩
 refine wp_seq (wp_seq (wp_region ?_))
 rw[size20.1,show List.range 2=List.range' 0 r20_1.length++[1] from rfl]
 refine ops_pre (E:=E) FOKB 10 [1] cmp20_1 (s:=⟨t1 w,hS,101⟩) (run1_is w) rfl hr1 fun a2 w2 hr2=>?_
 obtain⟨hBn,ρ2,hcore,hfree⟩:=hr2
 obtain⟨l,hl,hh⟩:=hcore.rel.holds 101 shBlk rfl
 obtain⟨es,clock,hwb,hst,hrow,hall⟩:=rows_of hh
 obtain⟨x1,hx1,d1,p1,g1⟩:=opIs_some op20_1
 have hev:a2.eval (.tmp 18)=.map (some l.addr.block):=by
  have:=at_of hcore.tm (k:=18) (v:=.map (some 101)) rfl
  generalize a2.eval (.tmp 18)=c at this
  cases this with
  |map h=>rw[hl]at h;cases h;rfl
 have hexec:(execOp a2.eval x1).run Try.prog w2=.ok (.value (.pointer (some ⟨w2.heap.size,0,none⟩))) (w2.alloc (.mapIter (some l.addr.block) clock #[] clock)) :=
  exec_range p1 (by rw[hev];exact run_range_map w2 106 3 104 l.addr.block es clock under106 hwb)
 rw[wpOps_cons]
 refine wpOp_ok hx1 g1 hexec ?_
 rw[d1]
 have hi:ρ2 102=none:=by rw[hfree 102 (by simp)];exact hd 102 (by decide)
 have hg:∀ id b,hget hS id=some b->hget h2 id=some b:=fun id b hb=>by
  simp only[h2,hget]
  cases hx:Nat.beq 101 id with
  |true=>rw[<- Nat.eq_of_beq_eq_true hx]at hb;cases hb
  |false=>exact hb
 have hc3:=core_alloc (t':=tS w) (o:=.mapIter (some l.addr.block) clock #[] clock) (it:=102) hcore hg hi (show 100<=102 by decide) rfl (fun h=>tmR_sub h (by
  intro p hp
  simp only[tS,mkT,List.mem_cons,List.not_mem_nil,or_false]at hp
  rcases hp with rfl|rfl|rfl|rfl<;>rfl)) (show 19<124 by decide)
 have hlt:l.addr.block<w2.heap.size:=hh.lt trivial
 have hback:∀ id b m,hget hS id=some b->rset ρ2 102 ⟨⟨w2.heap.size,0,none⟩,0,0⟩ id=some m->ρ2 id=some m:=fun id b m h1 h2=>by
  have:id≠102:=by rintro rfl;cases h1
  rwa [rset_ne _ _ this]at h2
 have hRI:RI E (S20 w) 102 w2.heap.size l.addr.block es clock (fun e=>∀ q:Int,e.key=.int .i64 q->dec1 q w=none) _ _ _:=⟨_,#[],show 100<=103 by decide,hc3,fun id hid=>by
   have:id≠102:=by rintro rfl;simp[S20]at hid
   rw[rset_ne _ _ this]
   exact hfree id (by simp[S20]at hid ⊢;omega),rset_same _ _ _,heap_alloc_new _ _,by rw[heap_alloc_old _ _ hlt];exact hwb,
  fun id b m h1 h2 h3=>by
   obtain⟨m',hm',hx⟩:=hcore.rel.holds id b (hg id b h1)
   have:=hback id b m h1 h3
   rw[hm']at this;cases this
   have:=hx.lt h2
   omega,
  fun id b m h1 h2 h3=>hcore.rel.sep id b 101 shBlk m l (hg id b h1) rfl (by rintro rfl;cases h1) h2 trivial (hback id b m h1 h3) hl,
  rfl,fun x _ hs=>by simp at hs⟩
 show(Code.block 0 (.loop round20)).wp Try.prog _ _ _
 rw[shape4]
 refine wp_block (wp_mono (wp_rangeMap (E:=E) (S:=S20 w) (Qr:=fun s=>∃ q c,tabHas shTab (.int .i64 q)=true/\dec1 q w=some c/\s=A20 q c 0) FOKB 10 (l3:=r20_3) ⟨rfl,rfl⟩ rfl hcore.fr.size hst.2.1 hst.1 (show 22<124 by decide) op20_2 size20.2.1 cmp20_2 op20_3 size20.2.2 cmp20_3 comp20_r
  (fun e he ρ=>?_) (fun e he E' hP hN hn=>?_) hRI) ?_)
 ·obtain⟨q,h1,_,h2⟩:=hrow e he
  rw[h1,h2]
  exact⟨.int _ _,row_v _ _ _ _ _⟩
 ·obtain⟨q,h1,hq,h2⟩:=hrow e he
  rw[h1,h2]
  refine⟨_,_,_,_,_,run3_is q _ _ _ _ w,?_⟩
  exact xround20 E' hP hn q _ _ _ _ w (form_of hq) _ _ e (fun hx q' hq'=>by rw[h1]at hq';cases hq';exact hx) (fun c hc=>⟨q,c,hq,hc,rfl⟩)
 ·rintro e a4 w4 (⟨rfl,hr4,hT⟩|⟨rfl,s2,⟨q,c,hq,hc,rfl⟩,hr4⟩)
  ·show tail20.wp Try.prog _ a4 w4
   have hF:decF w=none:=firstD_none fun p hp=>by
    obtain⟨e,he,hk⟩:=hall p.1 (mem_has hp rfl)
    exact hT e he p.1 hk
   refine wp_mono ((xwp_exec (E:=E) (Q:=finP E.toEnv rts20 [] (decA w).v [(100,some (decA w).b)] 1) FOKB 10 [] (s:=S20 w) (e20_z w) rfl ?_) _ comp20_t a4 w4 hr4) fun _ _ _ h=>h
   rw[decA_none hF]
   exact fin20 rfl _ _ _ ⟨⟨rfl,rfl⟩,⟨rfl,rfl⟩,trivial⟩ rfl rfl
  ·refine⟨_,?_,hr4⟩
   rw[decA_some (hu q c hq hc)]
   exact fin20 rfl _ _ _ ⟨⟨rfl,rfl⟩,⟨rfl,rfl⟩,trivial⟩ rfl rfl
theorem c20 (w:Int) (hu:DecU w) (n:Nat):ADet Try.prog 20 [.int .u32 w] [] (decA w).v [(n,some (decA w).b)] n 1:=by
 refine adet_of_body (bd20 w hu) [] [(n,100)] ?_ rfl trivial rfl rfl ?_ ?_
 ·show(true&&(Nat.ble n n&&Nat.blt n (n+1)&&true)&&(!(Ans.b (decA w)).ro&&true)&&true)=true
  simp[lt_blt,Ans.b,iB,Blk.ro]
 ·simp only[List.append_nil,HsOK,natMem,asc,flip,Nat.beq_refl,cond_true,and_true,hget,List.nil_append,List.cons_append]
  exact rfl
 ·simp[namesOf,natMem,asc,flip,nodupB]
noncomputable def con20:Con Try.prog where
 f:=20
 run:=fun vs _ n=>match vs with
  |[.int .u32 w]=>some ([],(decA w).v,[(n,some (decA w).b)],1,decP (DecU w))
  |_=>none
 ok:=fun vs h n pre v upd news hx=>by
  split at hx
  ·rename_i w
   simp only[Option.some.injEq,Prod.mk.injEq]at hx
   obtain⟨rfl,rfl,rfl,rfl,hu⟩:=hx
   exact⟨fun id hid=>by simp[fstL]at hid,c20 w (of_decP hu) n⟩
  ·cases hx
def decB (w:Int):Bool:=shTab.all fun p=>match dec1 p.1 w,decF w with
 |none,_=>true
 |some c,some (q,d)=>p.1==q&&(c.rd==d.rd&&(c.rs1==d.rs1&&(c.rs2==d.rs2&&c.imm==d.imm)))
 |some _,none=>false
theorem decU_of {w:Int} (h:decB w=true):DecU w:=by
 intro q c hq hc
 obtain⟨p,hp,h1,_⟩:=has_mem hq
 have h3:=List.all_eq_true.1 h p hp
 rw[h1,hc]at h3
 cases hd:decF w with
 |none=>rw[hd]at h3;cases h3
 |some x =>
  obtain⟨q',d⟩:=x
  rw[hd]at h3
  simp only[Bool.and_eq_true,beq_iff_eq]at h3
  obtain⟨rfl,g1,g2,g3,g4⟩:=h3
  cases c;cases d;simp_all
def regs (x:Nat->Int):List Value:=[.int .u64 (x 0),.int .u64 (x 1),.int .u64 (x 2),.int .u64 (x 3),.int .u64 (x 4),.int .u64 (x 5),.int .u64 (x 6),.int .u64 (x 7),.int .u64 (x 8),.int .u64 (x 9),.int .u64 (x 10),.int .u64 (x 11),.int .u64 (x 12),.int .u64 (x 13),.int .u64 (x 14),.int .u64 (x 15),.int .u64 (x 16),.int .u64 (x 17),.int .u64 (x 18),.int .u64 (x 19),.int .u64 (x 20),.int .u64 (x 21),.int .u64 (x 22),.int .u64 (x 23),.int .u64 (x 24),.int .u64 (x 25),.int .u64 (x 26),.int .u64 (x 27),.int .u64 (x 28),.int .u64 (x 29),.int .u64 (x 30),.int .u64 (x 31)]
structure KM where
 n:Nat
 has:Value->Bool
def ans0:Ans:=⟨0,⟨0,0,0,0⟩,0⟩
def KM.ans (k:KM) (q:Value):Ans:=bif k.has q then decA (asI q)else ans0
def Ans.i (x:Ans):Value:=i18 x.q x.c.rd x.c.rs1 x.c.rs2 x.c.imm
def KM.blk (k:KM):Blk:=.map 35 26 k.n k.has (fun q=>(k.ans q).i)
structure MS where
 sz:Nat
 mem:Nat->Int
 x:Nat->Int
 pl:Int
 st:Int
 cd:Int
 kn:KM
def MS.memB (m:MS):Blk:=.rows m.sz 1 (fun j=>[.int .u8 (m.mem j)]) false false
def MS.mB (m:MS):Blk:=.var ([.slice (some ⟨90,0,none⟩) m.sz m.sz]++regs m.x++[.int .u64 m.pl,.int .i64 m.st,.int .u8 m.cd,.map (some 91)])
abbrev pM:Value:=.pointer (some ⟨92,0,some 0⟩)
abbrev pR:Value:=.pointer (some ⟨100,0,some 0⟩)
def MS.H (m:MS):List (Nat × Blk):=[(90,m.memB),(91,m.kn.blk),(92,m.mB)]
attribute [local congr] cond_ctx
theorem p83_1 (m:MS) (at_:Int):walk (lookF FL) noSc 1000 x83 (argTm 0 [pM,Value.int IntKind.u64 at_,Value.int IntKind.i64 1]) (mkH [(90,m.memB),(92,m.mB)]) 100 j0_ (Pj.mk [6,7] [] [] [90,92]) j0_=bif at_.tmod 1 != 0||decide (at_>IntKind.u64.wrap (↑m.sz:Int))||decide (IntKind.u64.wrap (IntKind.u64.wrap (↑m.sz:Int)-at_)<1)then some (Stop.mk (Leaf.mk [some (true,Value.slice none 0 0),some (true,Value.bool false)] [] Exit.ret 100) none)else bif decide (0<=at_)&&decide (at_<=IntKind.u64.wrap (at_+1))&&decide (IntKind.u64.wrap (at_+1)<=(↑m.sz:Int))then some (Stop.mk (Leaf.mk [some (true,Value.slice (some (Addr.mk 90 (at_.toNat*1) none)) (IntKind.u64.wrap (at_+1)-at_).toNat (m.sz-at_.toNat)),some (true,Value.bool true)] [] Exit.ret 100) none)else none:=Eq.trans (b:=bif (((!bif at_.tmod 1 != 0 then true else decide (at_>IntKind.u64.wrap (↑m.sz:Int)))||bif at_.tmod 1 != 0 then true else decide (at_>IntKind.u64.wrap (↑m.sz:Int)))&&true||false)&&(((!bif at_.tmod 1 != 0 then true else decide (at_>IntKind.u64.wrap (↑m.sz:Int)))&&((!bif at_.tmod 1 != 0 then true else decide (at_>IntKind.u64.wrap (↑m.sz:Int)))&&true)||!!bif at_.tmod 1 != 0 then true else decide (at_>IntKind.u64.wrap (↑m.sz:Int)))&&(((!bif at_.tmod 1 != 0 then true else decide (at_>IntKind.u64.wrap (↑m.sz:Int)))&&true||!!bif at_.tmod 1 != 0 then true else decide (at_>IntKind.u64.wrap (↑m.sz:Int)))&&(((!bif at_.tmod 1 != 0 then true else decide (at_>IntKind.u64.wrap (↑m.sz:Int)))&&((!bif at_.tmod 1 != 0 then true else decide (at_>IntKind.u64.wrap (↑m.sz:Int)))&&true)||!!bif at_.tmod 1 != 0 then true else decide (at_>IntKind.u64.wrap (↑m.sz:Int)))&&(((!bif at_.tmod 1 != 0 then true else decide (at_>IntKind.u64.wrap (↑m.sz:Int)))&&true||!!bif at_.tmod 1 != 0 then true else decide (at_>IntKind.u64.wrap (↑m.sz:Int)))&&(((!bif at_.tmod 1 != 0 then true else decide (at_>IntKind.u64.wrap (↑m.sz:Int)))&&true||!!bif at_.tmod 1 != 0 then true else decide (at_>IntKind.u64.wrap (↑m.sz:Int)))&&(((!bif at_.tmod 1 != 0 then true else decide (at_>IntKind.u64.wrap (↑m.sz:Int)))&&true||!!bif at_.tmod 1 != 0 then true else decide (at_>IntKind.u64.wrap (↑m.sz:Int)))&&(((!bif at_.tmod 1 != 0 then true else decide (at_>IntKind.u64.wrap (↑m.sz:Int)))&&true||!!bif at_.tmod 1 != 0 then true else decide (at_>IntKind.u64.wrap (↑m.sz:Int)))&&(((!bif at_.tmod 1 != 0 then true else decide (at_>IntKind.u64.wrap (↑m.sz:Int)))&&true||!!bif at_.tmod 1 != 0 then true else decide (at_>IntKind.u64.wrap (↑m.sz:Int)))&&(((!at_.tmod 1 != 0||at_.tmod 1 != 0)&&true||false)&&((!at_.tmod 1 != 0&&(!at_.tmod 1 != 0&&true)||!!at_.tmod 1 != 0)&&((!at_.tmod 1 != 0&&true||!!at_.tmod 1 != 0)&&((!at_.tmod 1 != 0&&true||!!at_.tmod 1 != 0)&&((!at_.tmod 1 != 0&&true||!!at_.tmod 1 != 0)&&((!at_.tmod 1 != 0&&true||!!at_.tmod 1 != 0)&&((!at_.tmod 1 != 0&&true||!!at_.tmod 1 != 0)&&true)))))))))))))))then bif bif bif at_.tmod 1 != 0 then true else decide (at_>IntKind.u64.wrap (↑m.sz:Int))then true else decide (IntKind.u64.wrap (IntKind.u64.wrap (↑m.sz:Int)-at_)<1)then some (Stop.mk (Leaf.mk [some (true,Value.slice none 0 0),some (true,Value.bool false)] [] Exit.ret 100) none)else bif (decide (0<=at_)&&decide (at_<=IntKind.u64.wrap (at_+1))&&decide (IntKind.u64.wrap (at_+1)<=(↑m.sz:Int))&&true||false)&&true then some (Stop.mk (Leaf.mk [some (true,Value.slice (some (Addr.mk 90 (0+at_.toNat*1) none)) (IntKind.u64.wrap (at_+1)-at_).toNat (m.sz-at_.toNat)),some (true,Value.bool true)] [] Exit.ret 100) none)else none else none) (by kernel_rfl) (by simp(contextual:=true) only[bn,bc])
theorem p83_4 (m:MS) (at_:Int):walk (lookF FL) noSc 1000 x83 (argTm 0 [pM,Value.int IntKind.u64 at_,Value.int IntKind.i64 4]) (mkH [(90,m.memB),(92,m.mB)]) 100 j0_ (Pj.mk [6,7] [] [] [90,92]) j0_=bif at_.tmod 4 != 0||decide (at_>IntKind.u64.wrap (↑m.sz:Int))||decide (IntKind.u64.wrap (IntKind.u64.wrap (↑m.sz:Int)-at_)<4)then some (Stop.mk (Leaf.mk [some (true,Value.slice none 0 0),some (true,Value.bool false)] [] Exit.ret 100) none)else bif decide (0<=at_)&&decide (at_<=IntKind.u64.wrap (at_+4))&&decide (IntKind.u64.wrap (at_+4)<=(↑m.sz:Int))then some (Stop.mk (Leaf.mk [some (true,Value.slice (some (Addr.mk 90 (at_.toNat*1) none)) (IntKind.u64.wrap (at_+4)-at_).toNat (m.sz-at_.toNat)),some (true,Value.bool true)] [] Exit.ret 100) none)else none:=Eq.trans (b:=bif (((!bif at_.tmod 4 != 0 then true else decide (at_>IntKind.u64.wrap (↑m.sz:Int)))||bif at_.tmod 4 != 0 then true else decide (at_>IntKind.u64.wrap (↑m.sz:Int)))&&true||false)&&(((!bif at_.tmod 4 != 0 then true else decide (at_>IntKind.u64.wrap (↑m.sz:Int)))&&((!bif at_.tmod 4 != 0 then true else decide (at_>IntKind.u64.wrap (↑m.sz:Int)))&&true)||!!bif at_.tmod 4 != 0 then true else decide (at_>IntKind.u64.wrap (↑m.sz:Int)))&&(((!bif at_.tmod 4 != 0 then true else decide (at_>IntKind.u64.wrap (↑m.sz:Int)))&&true||!!bif at_.tmod 4 != 0 then true else decide (at_>IntKind.u64.wrap (↑m.sz:Int)))&&(((!bif at_.tmod 4 != 0 then true else decide (at_>IntKind.u64.wrap (↑m.sz:Int)))&&((!bif at_.tmod 4 != 0 then true else decide (at_>IntKind.u64.wrap (↑m.sz:Int)))&&true)||!!bif at_.tmod 4 != 0 then true else decide (at_>IntKind.u64.wrap (↑m.sz:Int)))&&(((!bif at_.tmod 4 != 0 then true else decide (at_>IntKind.u64.wrap (↑m.sz:Int)))&&true||!!bif at_.tmod 4 != 0 then true else decide (at_>IntKind.u64.wrap (↑m.sz:Int)))&&(((!bif at_.tmod 4 != 0 then true else decide (at_>IntKind.u64.wrap (↑m.sz:Int)))&&true||!!bif at_.tmod 4 != 0 then true else decide (at_>IntKind.u64.wrap (↑m.sz:Int)))&&(((!bif at_.tmod 4 != 0 then true else decide (at_>IntKind.u64.wrap (↑m.sz:Int)))&&true||!!bif at_.tmod 4 != 0 then true else decide (at_>IntKind.u64.wrap (↑m.sz:Int)))&&(((!bif at_.tmod 4 != 0 then true else decide (at_>IntKind.u64.wrap (↑m.sz:Int)))&&true||!!bif at_.tmod 4 != 0 then true else decide (at_>IntKind.u64.wrap (↑m.sz:Int)))&&(((!bif at_.tmod 4 != 0 then true else decide (at_>IntKind.u64.wrap (↑m.sz:Int)))&&true||!!bif at_.tmod 4 != 0 then true else decide (at_>IntKind.u64.wrap (↑m.sz:Int)))&&(((!at_.tmod 4 != 0||at_.tmod 4 != 0)&&true||false)&&((!at_.tmod 4 != 0&&(!at_.tmod 4 != 0&&true)||!!at_.tmod 4 != 0)&&((!at_.tmod 4 != 0&&true||!!at_.tmod 4 != 0)&&((!at_.tmod 4 != 0&&true||!!at_.tmod 4 != 0)&&((!at_.tmod 4 != 0&&true||!!at_.tmod 4 != 0)&&((!at_.tmod 4 != 0&&true||!!at_.tmod 4 != 0)&&((!at_.tmod 4 != 0&&true||!!at_.tmod 4 != 0)&&true)))))))))))))))then bif bif bif at_.tmod 4 != 0 then true else decide (at_>IntKind.u64.wrap (↑m.sz:Int))then true else decide (IntKind.u64.wrap (IntKind.u64.wrap (↑m.sz:Int)-at_)<4)then some (Stop.mk (Leaf.mk [some (true,Value.slice none 0 0),some (true,Value.bool false)] [] Exit.ret 100) none)else bif (decide (0<=at_)&&decide (at_<=IntKind.u64.wrap (at_+4))&&decide (IntKind.u64.wrap (at_+4)<=(↑m.sz:Int))&&true||false)&&true then some (Stop.mk (Leaf.mk [some (true,Value.slice (some (Addr.mk 90 (0+at_.toNat*1) none)) (IntKind.u64.wrap (at_+4)-at_).toNat (m.sz-at_.toNat)),some (true,Value.bool true)] [] Exit.ret 100) none)else none else none) (by kernel_rfl) (by simp(contextual:=true) only[bn,bc])
theorem p83_8 (m:MS) (at_:Int):walk (lookF FL) noSc 1000 x83 (argTm 0 [pM,Value.int IntKind.u64 at_,Value.int IntKind.i64 8]) (mkH [(90,m.memB),(92,m.mB)]) 100 j0_ (Pj.mk [6,7] [] [] [90,92]) j0_=bif at_.tmod 8 != 0||decide (at_>IntKind.u64.wrap (↑m.sz:Int))||decide (IntKind.u64.wrap (IntKind.u64.wrap (↑m.sz:Int)-at_)<8)then some (Stop.mk (Leaf.mk [some (true,Value.slice none 0 0),some (true,Value.bool false)] [] Exit.ret 100) none)else bif decide (0<=at_)&&decide (at_<=IntKind.u64.wrap (at_+8))&&decide (IntKind.u64.wrap (at_+8)<=(↑m.sz:Int))then some (Stop.mk (Leaf.mk [some (true,Value.slice (some (Addr.mk 90 (at_.toNat*1) none)) (IntKind.u64.wrap (at_+8)-at_).toNat (m.sz-at_.toNat)),some (true,Value.bool true)] [] Exit.ret 100) none)else none:=Eq.trans (b:=bif (((!bif at_.tmod 8 != 0 then true else decide (at_>IntKind.u64.wrap (↑m.sz:Int)))||bif at_.tmod 8 != 0 then true else decide (at_>IntKind.u64.wrap (↑m.sz:Int)))&&true||false)&&(((!bif at_.tmod 8 != 0 then true else decide (at_>IntKind.u64.wrap (↑m.sz:Int)))&&((!bif at_.tmod 8 != 0 then true else decide (at_>IntKind.u64.wrap (↑m.sz:Int)))&&true)||!!bif at_.tmod 8 != 0 then true else decide (at_>IntKind.u64.wrap (↑m.sz:Int)))&&(((!bif at_.tmod 8 != 0 then true else decide (at_>IntKind.u64.wrap (↑m.sz:Int)))&&true||!!bif at_.tmod 8 != 0 then true else decide (at_>IntKind.u64.wrap (↑m.sz:Int)))&&(((!bif at_.tmod 8 != 0 then true else decide (at_>IntKind.u64.wrap (↑m.sz:Int)))&&((!bif at_.tmod 8 != 0 then true else decide (at_>IntKind.u64.wrap (↑m.sz:Int)))&&true)||!!bif at_.tmod 8 != 0 then true else decide (at_>IntKind.u64.wrap (↑m.sz:Int)))&&(((!bif at_.tmod 8 != 0 then true else decide (at_>IntKind.u64.wrap (↑m.sz:Int)))&&true||!!bif at_.tmod 8 != 0 then true else decide (at_>IntKind.u64.wrap (↑m.sz:Int)))&&(((!bif at_.tmod 8 != 0 then true else decide (at_>IntKind.u64.wrap (↑m.sz:Int)))&&true||!!bif at_.tmod 8 != 0 then true else decide (at_>IntKind.u64.wrap (↑m.sz:Int)))&&(((!bif at_.tmod 8 != 0 then true else decide (at_>IntKind.u64.wrap (↑m.sz:Int)))&&true||!!bif at_.tmod 8 != 0 then true else decide (at_>IntKind.u64.wrap (↑m.sz:Int)))&&(((!bif at_.tmod 8 != 0 then true else decide (at_>IntKind.u64.wrap (↑m.sz:Int)))&&true||!!bif at_.tmod 8 != 0 then true else decide (at_>IntKind.u64.wrap (↑m.sz:Int)))&&(((!bif at_.tmod 8 != 0 then true else decide (at_>IntKind.u64.wrap (↑m.sz:Int)))&&true||!!bif at_.tmod 8 != 0 then true else decide (at_>IntKind.u64.wrap (↑m.sz:Int)))&&(((!at_.tmod 8 != 0||at_.tmod 8 != 0)&&true||false)&&((!at_.tmod 8 != 0&&(!at_.tmod 8 != 0&&true)||!!at_.tmod 8 != 0)&&((!at_.tmod 8 != 0&&true||!!at_.tmod 8 != 0)&&((!at_.tmod 8 != 0&&true||!!at_.tmod 8 != 0)&&((!at_.tmod 8 != 0&&true||!!at_.tmod 8 != 0)&&((!at_.tmod 8 != 0&&true||!!at_.tmod 8 != 0)&&((!at_.tmod 8 != 0&&true||!!at_.tmod 8 != 0)&&true)))))))))))))))then bif bif bif at_.tmod 8 != 0 then true else decide (at_>IntKind.u64.wrap (↑m.sz:Int))then true else decide (IntKind.u64.wrap (IntKind.u64.wrap (↑m.sz:Int)-at_)<8)then some (Stop.mk (Leaf.mk [some (true,Value.slice none 0 0),some (true,Value.bool false)] [] Exit.ret 100) none)else bif (decide (0<=at_)&&decide (at_<=IntKind.u64.wrap (at_+8))&&decide (IntKind.u64.wrap (at_+8)<=(↑m.sz:Int))&&true||false)&&true then some (Stop.mk (Leaf.mk [some (true,Value.slice (some (Addr.mk 90 (0+at_.toNat*1) none)) (IntKind.u64.wrap (at_+8)-at_).toNat (m.sz-at_.toNat)),some (true,Value.bool true)] [] Exit.ret 100) none)else none else none) (by kernel_rfl) (by simp(contextual:=true) only[bn,bc])
def plB (sz:Nat) (a n:Int):Bool:=a % n==0&&(decide (0<=a)&&decide (a+n<=sz))
theorem u64_id {x:Int} (h:0<=x) (h':x<18446744073709551616):IntKind.u64.wrap x=x:=by
 have:IntKind.u64.wrap x=x % 18446744073709551616:=by simp[IntKind.wrap,IntKind.bits,IntKind.signed]
 omega
def szB (sz:Nat):Bool:=decide (sz<=4194304)
theorem szB_iff {sz:Nat}:szB sz=true ↔ sz<=4194304:=by simp[szB]
def slM (m:MS) (a n:Int):Value:=.slice (some ⟨90,a.toNat*1,none⟩) n.toNat (m.sz-a.toNat)
theorem bis_mem {P:Program}{σ:Nm}{m:MS}:BIs P σ m.memB m.memB:=bis_rw fun _ _=>rfl
section
variable (m:MS) (a:Int)
theorem w83_1 (hs:szB m.sz=true) (ha:uB a=true):walk (lookF FL) noSc 1000 x83 (argTm 0 [pM,.int .u64 a,.int .i64 1]) (mkH [(90,m.memB),(92,m.mB)]) 100 j0_ (Pj.mk [6,7] [] [] [90,92]) j0_ =
  bif plB m.sz a 1 then some (Stop.mk (Leaf.mk [some (true,slM m a 1),some (true,.bool true)] [] Exit.ret 100) none)else some (Stop.mk (Leaf.mk [some (true,Value.slice none 0 0),some (true,Value.bool false)] [] Exit.ret 100) none):=by
 have hs:=szB_iff.1 hs
 have ha:=uB_iff.1 ha
 rw[p83_1,u64_id (x:=(m.sz:Int)) (by omega) (by omega)]
 have e0:a.tmod 1=a % 1:=Int.tmod_eq_emod_of_nonneg ha.1
 rw[e0]
 unfold plB
 by_cases h1:a % 1=0
 ·by_cases h2:a<=m.sz
  ·rw[u64_id (x:=(m.sz:Int)-a) (by omega) (by omega)]
   by_cases h3:a+1<=m.sz
   ·have g1:((a % 1 != 0)||decide (a>(m.sz:Int))||decide ((m.sz:Int)-a<1))=false:=by simp[h1];omega
    have g2:(a % 1==0&&(decide (0<=a)&&decide (a+1<=(m.sz:Int))))=true:=by simp[h1,h3,ha.1]
    rw[g1,g2,cond_false,cond_true,u64_id (x:=a+1) (by omega) (by omega)]
    have g3:(decide (0<=a)&&decide (a<=a+1)&&decide (a+1<=(m.sz:Int)))=true:=by simp;omega
    rw[g3,cond_true,show a+1-a=1 by omega]
    rfl
   ·have g1:((a % 1 != 0)||decide (a>(m.sz:Int))||decide ((m.sz:Int)-a<1))=true:=by simp;omega
    have g2:(a % 1==0&&(decide (0<=a)&&decide (a+1<=(m.sz:Int))))=false:=by simp;omega
    rw[g1,g2];rfl
  ·have g1:((a % 1 != 0)||decide (a>(m.sz:Int))||decide (IntKind.u64.wrap ((m.sz:Int)-a)<1))=true:=by simp;omega
   have g2:(a % 1==0&&(decide (0<=a)&&decide (a+1<=(m.sz:Int))))=false:=by simp;omega
   rw[g1,g2];rfl
 ·have g0:(a % 1 != 0)=true:=bne_iff_ne.2 h1
  have g0':(a % 1==0)=false:=beq_eq_false_iff_ne.2 h1
  rw[g0,g0'];rfl
theorem w83_4 (hs:szB m.sz=true) (ha:uB a=true):walk (lookF FL) noSc 1000 x83 (argTm 0 [pM,.int .u64 a,.int .i64 4]) (mkH [(90,m.memB),(92,m.mB)]) 100 j0_ (Pj.mk [6,7] [] [] [90,92]) j0_ =
  bif plB m.sz a 4 then some (Stop.mk (Leaf.mk [some (true,slM m a 4),some (true,.bool true)] [] Exit.ret 100) none)else some (Stop.mk (Leaf.mk [some (true,Value.slice none 0 0),some (true,Value.bool false)] [] Exit.ret 100) none):=by
 have hs:=szB_iff.1 hs
 have ha:=uB_iff.1 ha
 rw[p83_4,u64_id (x:=(m.sz:Int)) (by omega) (by omega)]
 have e0:a.tmod 4=a % 4:=Int.tmod_eq_emod_of_nonneg ha.1
 rw[e0]
 unfold plB
 by_cases h1:a % 4=0
 ·by_cases h2:a<=m.sz
  ·rw[u64_id (x:=(m.sz:Int)-a) (by omega) (by omega)]
   by_cases h3:a+4<=m.sz
   ·have g1:((a % 4 != 0)||decide (a>(m.sz:Int))||decide ((m.sz:Int)-a<4))=false:=by simp[h1];omega
    have g2:(a % 4==0&&(decide (0<=a)&&decide (a+4<=(m.sz:Int))))=true:=by simp[h1,h3,ha.1]
    rw[g1,g2,cond_false,cond_true,u64_id (x:=a+4) (by omega) (by omega)]
    have g3:(decide (0<=a)&&decide (a<=a+4)&&decide (a+4<=(m.sz:Int)))=true:=by simp;omega
    rw[g3,cond_true,show a+4-a=4 by omega]
    rfl
   ·have g1:((a % 4 != 0)||decide (a>(m.sz:Int))||decide ((m.sz:Int)-a<4))=true:=by simp;omega
    have g2:(a % 4==0&&(decide (0<=a)&&decide (a+4<=(m.sz:Int))))=false:=by simp;omega
    rw[g1,g2];rfl
  ·have g1:((a % 4 != 0)||decide (a>(m.sz:Int))||decide (IntKind.u64.wrap ((m.sz:Int)-a)<4))=true:=by simp;omega
   have g2:(a % 4==0&&(decide (0<=a)&&decide (a+4<=(m.sz:Int))))=false:=by simp;omega
   rw[g1,g2];rfl
 ·have g0:(a % 4 != 0)=true:=bne_iff_ne.2 h1
  have g0':(a % 4==0)=false:=beq_eq_false_iff_ne.2 h1
  rw[g0,g0'];rfl
theorem w83_8 (hs:szB m.sz=true) (ha:uB a=true):walk (lookF FL) noSc 1000 x83 (argTm 0 [pM,.int .u64 a,.int .i64 8]) (mkH [(90,m.memB),(92,m.mB)]) 100 j0_ (Pj.mk [6,7] [] [] [90,92]) j0_ =
  bif plB m.sz a 8 then some (Stop.mk (Leaf.mk [some (true,slM m a 8),some (true,.bool true)] [] Exit.ret 100) none)else some (Stop.mk (Leaf.mk [some (true,Value.slice none 0 0),some (true,Value.bool false)] [] Exit.ret 100) none):=by
 have hs:=szB_iff.1 hs
 have ha:=uB_iff.1 ha
 rw[p83_8,u64_id (x:=(m.sz:Int)) (by omega) (by omega)]
 have e0:a.tmod 8=a % 8:=Int.tmod_eq_emod_of_nonneg ha.1
 rw[e0]
 unfold plB
 by_cases h1:a % 8=0
 ·by_cases h2:a<=m.sz
  ·rw[u64_id (x:=(m.sz:Int)-a) (by omega) (by omega)]
   by_cases h3:a+8<=m.sz
   ·have g1:((a % 8 != 0)||decide (a>(m.sz:Int))||decide ((m.sz:Int)-a<8))=false:=by simp[h1];omega
    have g2:(a % 8==0&&(decide (0<=a)&&decide (a+8<=(m.sz:Int))))=true:=by simp[h1,h3,ha.1]
    rw[g1,g2,cond_false,cond_true,u64_id (x:=a+8) (by omega) (by omega)]
    have g3:(decide (0<=a)&&decide (a<=a+8)&&decide (a+8<=(m.sz:Int)))=true:=by simp;omega
    rw[g3,cond_true,show a+8-a=8 by omega]
    rfl
   ·have g1:((a % 8 != 0)||decide (a>(m.sz:Int))||decide ((m.sz:Int)-a<8))=true:=by simp;omega
    have g2:(a % 8==0&&(decide (0<=a)&&decide (a+8<=(m.sz:Int))))=false:=by simp;omega
    rw[g1,g2];rfl
  ·have g1:((a % 8 != 0)||decide (a>(m.sz:Int))||decide (IntKind.u64.wrap ((m.sz:Int)-a)<8))=true:=by simp;omega
   have g2:(a % 8==0&&(decide (0<=a)&&decide (a+8<=(m.sz:Int))))=false:=by simp;omega
   rw[g1,g2];rfl
 ·have g0:(a % 8 != 0)=true:=bne_iff_ne.2 h1
  have g0':(a % 8==0)=false:=beq_eq_false_iff_ne.2 h1
  rw[g0,g0'];rfl
end
theorem body_walk {f N n0 news:Nat}{rts:List Rx}{x:XCode}{vs:List Value}{pre upd:Hp}{vv:Value}{F:Fns}{sc:Short} (hF:FnsOK Try.prog F sc) (hf:fnx Try.prog f=some (N,rts,x)) (hlen:vs.length<=N){p r q:Pj}{l:Leaf}
  (he:walk F sc 1000 x (argTm 0 vs) pre n0 p r q=some ⟨l,none⟩) (hfin:finE l.e=true) (s':St)
  (hl:∀ ρ w hd,LeafTo (envOf Try.prog N n0 pre mixed ρ w hd) ((pjOf p r l.e).ks++(pjOf p r l.e).uk) (ext (pjOf p r l.e) (argTm 0 vs) pre l) s')
  (hsub:SubB s'.h [] (upd++pre)) (hn:s'.n=n0+news) (hr:resV s'.t (upd++pre) rts=some vv):Body Try.prog f vs pre vv upd n0 news :=
 body_of mixed hf hlen fun ρ w hd=>xwp_toEnd (E:=envOf Try.prog N n0 pre mixed ρ w hd) (s:=⟨argTm 0 vs,pre,n0⟩) cl_fin hF 1000 he s' (hl ρ w hd) (fin_of hfin hsub hn hr)
def pre83 (m:MS):List (Nat × Blk):=[(90,m.memB),(92,m.mB)]
abbrev πM:List (Nat × Nat):=[(90,90),(91,91),(92,92),(40,40)]
def nOK (n:Int):Bool:=n==1||(n==4||n==8)
theorem w83 (m:MS) (a:Int) (hs:szB m.sz=true) (ha:uB a=true){n:Int} (hn:nOK n=true):walk (lookF FL) noSc 1000 x83 (argTm 0 [pM,.int .u64 a,.int .i64 n]) (mkH (pre83 m)) 100 j0_ (Pj.mk [6,7] [] [] [90,92]) j0_ =
  bif plB m.sz a n then some (Stop.mk (Leaf.mk [some (true,slM m a n),some (true,.bool true)] [] Exit.ret 100) none)else some (Stop.mk (Leaf.mk [some (true,Value.slice none 0 0),some (true,Value.bool false)] [] Exit.ret 100) none):=by
 simp only[nOK,Bool.or_eq_true,beq_iff_eq]at hn
 rcases hn with rfl|rfl|rfl
 ·exact w83_1 m a hs ha
 ·exact w83_4 m a hs ha
 ·exact w83_8 m a hs ha
theorem bd83 (m:MS) (a:Int) (hs:szB m.sz=true) (ha:uB a=true){n:Int} (hn:nOK n=true) (h:plB m.sz a n=true):Body Try.prog 83 [pM,.int .u64 a,.int .i64 n] (mkH (pre83 m)) (.tuple ⟨[slM m a n,.bool true]⟩) [] 100 0:=by
 have e:=w83 m a hs ha hn
 rw[h,cond_true]at e
 exact body_walk FOK fx83 (by simp) e rfl ⟨mkT [6,7] [slM m a _,.bool true],mkH (pre83 m),100⟩ (fun ρ w hd=>⟨_,_,_,rfl,rfl,⟨rfl,rfl,trivial⟩,bis_mem,rfl,trivial⟩) ⟨rfl,rfl,trivial⟩ rfl rfl
theorem bd83n (m:MS) (a:Int) (hs:szB m.sz=true) (ha:uB a=true){n:Int} (hn:nOK n=true) (h:plB m.sz a n=false):Body Try.prog 83 [pM,.int .u64 a,.int .i64 n] (mkH (pre83 m)) (.tuple ⟨[.slice none 0 0,.bool false]⟩) [] 100 0:=by
 have e:=w83 m a hs ha hn
 rw[h,cond_false]at e
 exact body_walk FOK fx83 (by simp) e rfl ⟨mkT [6,7] [.slice none 0 0,.bool false],mkH (pre83 m),100⟩ (fun ρ w hd=>⟨_,_,_,rfl,rfl,⟨rfl,rfl,trivial⟩,bis_mem,rfl,trivial⟩) ⟨rfl,rfl,trivial⟩ rfl rfl
theorem c83 (m:MS) (a:Int) (hs:szB m.sz=true) (ha:uB a=true){k:Int} (hk:nOK k=true) (h:plB m.sz a k=true) (n:Nat):ADet Try.prog 83 [pM,.int .u64 a,.int .i64 k] (mkH (pre83 m)) (.tuple ⟨[slM m a k,.bool true]⟩) [] n 0 :=
 adet_of_body (bd83 m a hs ha hk h) πM [] rfl rfl ⟨bis_mem,rfl,trivial⟩ rfl rfl ⟨bis_mem,rfl,trivial⟩ rfl
theorem c83n (m:MS) (a:Int) (hs:szB m.sz=true) (ha:uB a=true){k:Int} (hk:nOK k=true) (h:plB m.sz a k=false) (n:Nat):ADet Try.prog 83 [pM,.int .u64 a,.int .i64 k] (mkH (pre83 m)) (.tuple ⟨[.slice none 0 0,.bool false]⟩) [] n 0 :=
 adet_of_body (bd83n m a hs ha hk h) πM [] rfl rfl ⟨bis_mem,rfl,trivial⟩ rfl rfl ⟨bis_mem,rfl,trivial⟩ rfl
def Has (h:Hp) (pre:List (Nat × Blk)):Prop:=match pre with
 |[]=>True
 |(id,b) :: l=>hget h id=some b/\Has h l
theorem has_pre {h:Hp}:∀ {pre:List (Nat × Blk)},Has h pre->nodupB (pre.map (·.1))=true->∀ id∈fstL (mkH pre),hget h id=hget (mkH pre) id
 |[],_,_,id,hid=>by cases hid
 |(k,b) :: l,hh,hnd,id,hid=>by
  simp only[mkH,fstL,List.mem_cons]at hid
  simp only[mkH,hget]
  cases hb:Nat.beq k id with
  |true=>rw[<- Nat.eq_of_beq_eq_true hb];exact hh.1
  |false =>
   simp only[List.map_cons,nodupB,Bool.and_eq_true]at hnd
   refine has_pre hh.2 hnd.2 id (hid.resolve_left fun e=>?_)
   subst e;simp at hb
noncomputable def con83 (m:MS):Con Try.prog where
 f:=83
 run:=fun vs h n=>match vs with
  |[.pointer (some ⟨92,0,some 0⟩),.int .u64 a,.int .i64 k]=>some (mkH (pre83 m),.tuple ⟨[slM m a k,.bool true]⟩,[],0,decP (Has h (pre83 m))&&(szB m.sz&&(uB a&&(nOK k&&plB m.sz a k))))
  |_=>none
 ok:=fun vs h n pre v upd news hx=>by
  split at hx
  ·simp only[Option.some.injEq,Prod.mk.injEq,Bool.and_eq_true]at hx
   obtain⟨rfl,rfl,rfl,rfl,hA,h1,h2,h3,h4⟩:=hx
   exact⟨has_pre (of_decP hA) rfl,c83 m _ h1 h2 h3 h4 n⟩
  ·cases hx
noncomputable def con83n (m:MS):Con Try.prog where
 f:=83
 run:=fun vs h n=>match vs with
  |[.pointer (some ⟨92,0,some 0⟩),.int .u64 a,.int .i64 k]=>some (mkH (pre83 m),.tuple ⟨[.slice none 0 0,.bool false]⟩,[],0,decP (Has h (pre83 m))&&(szB m.sz&&(uB a&&(nOK k&&!plB m.sz a k))))
  |_=>none
 ok:=fun vs h n pre v upd news hx=>by
  split at hx
  ·simp only[Option.some.injEq,Prod.mk.injEq,Bool.and_eq_true,Bool.not_eq_true']at hx
   obtain⟨rfl,rfl,rfl,rfl,hA,h1,h2,h3,h4⟩:=hx
   exact⟨has_pre (of_decP hA) rfl,c83n m _ h1 h2 h3 h4 n⟩
  ·cases hx
end Go.X
