/- The clean machine's walks of objects: made of bytes. · The clean machine's walks of objects: their symbols, as records. -/
import Derived.Test.YtkimkgbppegkhaaGreatGk
set_option linter.unusedVariables false
set_option linter.unusedSimpArgs false
namespace Go.Proofs.YtkimkgbppegkhaaGreat.Cm
open Go Go.RowKit Go.Proofs.YtkimkgbppegkhaaGreat.Gf
set_option maxRecDepth 1000000
theorem rY{data:List Nat}(hb:B8 data)(N s M b:Nat):Mx (kN s M b) N (eU data N s M b):=⟨by unfold eU;simp,fun r hr=>by
 unfold eU at hr
 obtain⟨q,_,rfl⟩:=List.mem_map.1 hr
 exact u_ fun x hx=>hb x (List.mem_of_mem_drop (List.mem_of_mem_take hx))⟩
/-- a block among an object's: how many source symbols, which parts -/
def kd(N:Nat)(X:Heap)(f:F)(q:Nat×List (List Nat)):Prop:=∃b,f=.ptr b 0∧jT X b q.1 N q.2
theorem kd.mono{N:Nat}{X Y:Heap}(hm:ab X Y){f:F}{q:Nat×List (List Nat)}(h:kd N X f q):kd N Y f q:=by
 obtain⟨b,h1,h2⟩:=h
 exact⟨b,h1,h2.mono hm⟩
/-- an object, as a heap has it -/
def nz(X:Heap)(o B N M:Nat)(bl:List (Nat×List (List Nat))):Prop:=∃a fs,X o=some (.cells [iN B,iN N,iN M,a] true)∧aF X 1 a=some fs∧aw (kd N X) fs bl
theorem nz.mono{X Y:Heap}{o B N M:Nat}{bl:List (Nat×List (List Nat))}(hm:ab X Y)(h:nz X o B N M bl):nz Y o B N M bl:=by
 obtain⟨a,fs,h1,h2,h3⟩:=h
 exact⟨a,fs,hm _ _ h1,aO hm h2,h3.mono fun _ _ q=>q.mono hm⟩
/-- a block's parts are those of its source symbols -/
def i0(data:List Nat)(B N M i:Nat)(q:Nat×List (List Nat)):Prop:=q.1=kS B N M i∧dV (lK q.1) N (sK q.1+2+(List.range q.1).length) (dB q.1 (List.range q.1)) (eS q.1 N (eU data N (bn B N) M i)) q.2
def eQ(data:List Nat)(B N M:Nat)(bl:List (Nat×List (List Nat))):Prop:=∀i q,bl[i]?=some q→i0 data B N M i q
theorem eQ.snoc{data:List Nat}{B N M:Nat}{bl:List (Nat×List (List Nat))}(h:eQ data B N M bl){q:Nat×List (List Nat)}(hq:i0 data B N M bl.length q):eQ data B N M (bl++[q]):=fun i x hx=>by
 rcases Nat.lt_trichotomy i bl.length with h1 | h1 | h1
 ·rw[List.getElem?_append_left h1]at hx;exact h i x hx
 ·subst h1
  simp at hx
  subst hx
  exact hq
 ·rw[List.getElem?_eq_none (by simp;omega)]at hx;cases hx
theorem Ds{X:Heap}{n:Nat}{B N M:Nat}{fd:F}(data:List Nat)(h:b7 B N M)(hd:aB X fd data)(hB:data.length=B)(hcp:eO fd)(ht:ap X n):af 8 [.u (.agg [iN B,iN N,iN M]),vf (fd)] X n fun v X'=>∃g e,v=.tup [.f g,.f (.int .i64 e)]∧((e=0∧∃o bl,g=.ptr o 0∧nz X' o B N M bl∧bl.length=blkS B N M∧eQ data B N M bl)∨(e=4∧g=.ptr0∧∃i,i<blkS B N M∧fO (lK (kS B N M i)) N (sK (kS B N M i)+2+(List.range (kS B N M i)).length) (dB (kS B N M i) (List.range (kS B N M i))) (eS (kS B N M i) N (eU data N (bn B N) M i)))):=by
 refine af.of_to kr ?_
 have s0:=aa.ini ht
 have hm0:ab X X:=ab.rfl
 have hbp:=iB h
 have hb8:=hd.2.1
 obtain⟨hb1,hb2,hn1,hn2,hm1,hm2⟩:=id h
 refine ag ?_
 obtain⟨H1,s2,J3⟩:=cu s0 (.cells [iN B,iN N,iN M] true)
 refine ov 2 (J3 _ _ (vf (.ptr (n) (0)))) (ae 2 (ag (ov 14 (la 0 3 [iN B,iN N,iN M] (s2.at 0 rfl)) (go 1 ?_))))
 obtain⟨_,X4,n5,hc6,hm7,ht8,⟨g,rfl,gs,hr,hG⟩⟩:=(E6 data h hd hB hcp s2.topX:af 24 [.u (.agg [iN B,iN N,iN M]),vf (fd)] X (n+1) _)
 obtain⟨H9,hc10,s⟩:=s2.call hc6 hm7 ht8
 have hm0:=hm0.tr hm7
 refine ov 16 (jC hc10) ?_
 have hgl:gs.length=blkS B N M:=by rw[←hG.length];unfold jm;simp
 refine ae 5 (aP 1 (ov 20 (uF 0 0) (aj (ar (nx (ag (ov 22 (la 0 3 [iN B,iN N,iN M] (s.at 0 rfl)) (go 1 ?_))))))))
 obtain⟨_,s,J⟩:=cu s (.cells [iN B,iN N,iN M,.sl0] true)
 refine ov 24 (J _ _ (vf (.ptr (n5) (0)))) (ae 1 (aP 1 (ov 26 (lv gs.length (cQ hr)) (ae 1 (bk 0 (To.loop kr (aC.for (gs.length) (fun i A Hq nq=>∃(Y:Heap) (a:F) (fs:List F) (bl:List (Nat×List (List Nat))),aL A [(2,vf (.ptr (n) (0))),(8,vf (.ptr (n5) (0))),(25,vf (g)),(26,vi gs.length),(27,vi i)]∧aa Y Hq nq ([(n5,.cells [iN B,iN N,iN M,a] true),(n,.cells [iN B,iN N,iN M] true)]++(a_ (a) (fs)++[]))∧(ab X Y)∧(aF Y 1 g=some gs)∧(aw (bJ Y) gs (jm data N (bn B N) M))∧(bO 1 a fs)∧(aw (kd N Y) fs bl)∧(bl.length=i)∧(eQ data B N M bl)) ⟨X4,.sl0,[],[],az (ts:=[2,8,25,26,27]) kr,s,(hm0),(hr),(hG),(bO.nil 1),(trivial),(rfl),(fun _ _ h=>by simp at h)⟩ (fun i A H n1 hi hI=>?_) (fun A H n1 hI=>?_))))))))
 ·obtain⟨Y,a,fs,bl,hT,s,hm0,hr,hG,ha,hA,hbl,hS⟩:=hI
  refine To.keep _ ?_ hT.sub
  have hib:i<blkS B N M:=by omega
  have hkb:=(dq h).2.2 i hib
  have hx:gs[i]?=some gs[i]:=List.getElem?_eq_getElem hi
  obtain⟨r,hr1,hr2⟩:=hG.at hx
  have hrr:r=eU data N (bn B N) M i:=by
   unfold jm at hr1
   rw[List.getElem?_map,List.getElem?_range hib]at hr1
   exact(Option.some.inj hr1).symm
  subst hrr
  obtain⟨lid,loff,lcap,rfl,hlat⟩:=cW hr om
  have hfl:=hA.length
  refine ag (ov 28 (lT i gs.length) (aQ (aM (nx (aD 1 (ag (ov 29 (ix lid loff 1 gs.length i) (ov 30 (lx lid (loff+i*1) gs[i] (by rw[Nat.mul_one];exact(hlat i _ hx).mono (s.mono _))) (ae 1 (ai 1 (ov 33 (am (off:=1) (x:=iN N) (s.at 1 rfl) kr) (go 1 ?_))))))))))))
  obtain⟨_,W,n2,hc20,hm21,ht22,⟨z,e,rfl,hz⟩⟩:=(ER (k:=kS B N M i) _ hkb.1 hkb.2 hr2 (rY hb8 _ _ _ _) om om s.topX:af 25 [vi N,vf (gs[i])] Y (n1) _)
  obtain⟨_,hc24,s⟩:=s.call hc20 hm21 ht22
  have hm0:=hm0.tr hm21
  have hr:=aO hm21 hr
  have hG:=hG.mono fun _ _ q=>q.mono hm21
  have hA:=hA.mono fun _ _ q=>q.mono hm21
  refine ov 35 (jC hc24) ?_
  rcases hz with⟨rfl,b,cs,rfl,hbv,hsv⟩|⟨rfl,rfl,hun⟩
  ·refine ae 5 (aP 1 (ov 39 (uF 0 0) (aj (ar (nx (rg (go 4 (ov 45 (am (off:=3) (x:=a) (s.at 0 rfl) kr) (go 1 ?_)))))))))
   obtain⟨W,_,s,m,f1,J⟩:=bj s (.cells [.ptr (b) (0)] true)
   have hm0:=hm0.tr m
   have hr:=aO m hr
   have hG:=hG.mono fun _ _ q=>q.mono m
   have hA:=hA.mono fun _ _ q=>q.mono m
   have hbv:=hbv.mono m
   refine ov 47 (J _ _ (vf (.sl (n2) (0) 1 (1) none))) ?_
   obtain⟨a1,_,n3,ha35,s,J⟩:=eW (sz:=1) (bytes:=8) (x:=.sl (n2) (0) 1 (1) none) (fs:=fs) (new:=[.ptr (b) (0)]) (M1:=[(n5,.cells [iN B,iN N,iN M,a] true),(n,.cells [iN B,iN N,iN M] true)]) (M2:=[]) s ha (bf (s.mono _ _ f1) rfl) (rfl) om om
   refine ov 48 (J _ _) (go 2 ?_)
   obtain⟨H,s,J⟩:=dE (off:=3) (new:=[a1]) (cs':=[iN B,iN N,iN M,a1]) s 0 rfl sm rfl
   have s:aa W H (n3) ([(n5,.cells [iN B,iN N,iN M,a1] true),(n,.cells [iN B,iN N,iN M] true)]++(a_ (a1) ((fs++[.ptr (b) (0)]))++[])):=s
   refine oe (J _ _) (aj (rg (ov 51 (aN i 1) (aR 1 ?_))))
   exact .inl ⟨rfl,W,_,_,bl++[(kS B N M i,cs)],az (ts:=[2,8,25,26,27]) kr,s,(hm0),(hr),(hG),(ha35),(hA.snoc ⟨b,rfl,hbv⟩),(by simp[hbl]),(hS.snoc ⟨by rw[hbl],by rw[hbl];exact hsv⟩)⟩
  ·refine ae 5 (aP 1 (ov 39 (uT 4 0) (aj (iT (ah 3 (rt (.inr ⟨sm,?_⟩)))))))
   exact⟨.inr rfl,_,kr,W,_,s,hm0,_,_,rfl,.inr ⟨rfl,rfl,i,hib,hun⟩⟩
 ·obtain⟨Y,a,fs,bl,hT,s,hm0,hr,hG,ha,hA,hbl,hS⟩:=hI
  refine To.keep _ ?_ hT.sub
  refine ag (ov 28 (au (cr .i64 (x:=(((gs.length):Nat):Int)) (y:=((gs.length:Nat):Int)) sm)) (aj ?_))
  obtain⟨W,m1,s,hrow,hrowk⟩:=aa.acc (sz:=1) (M1:=[(n5,.cells [iN B,iN N,iN M,a] true),(n,.cells [iN B,iN N,iN M] true)]) (M2:=[]) (a:=a) (fs:=fs) (by simpa using s) ha
  have hm0:=hm0.tr m1
  have hA:=hA.mono fun _ _ q=>q.mono m1
  have s:aa W H (n1) [(n5,.cells [iN B,iN N,iN M,a] true),(n,.cells [iN B,iN N,iN M] true)]:=by simpa using s
  refine sq (iF (To.exit 0 kr ?_))
  refine⟨sm,?_⟩
  show To Tryz.prog 8 [1,1,1,1,1] _ _ _ _
  refine ah 3 (rt ?_)
  exact⟨.inr rfl,_,kr,_,_,s.frz.1,hm0.tr s.frz.2,_,_,rfl,.inl ⟨rfl,_,bl,rfl,⟨_,_,bG _ _ _,aO s.frz.2 hrow,hA.mono fun _ _ q=>q.mono s.frz.2⟩,om,hS⟩⟩
/-- things of several cells, one behind the other -/
def aA{α:Type}(R:α→List F→Prop)(sz:Nat):List α→List F→Prop
 |[],fs=>fs=[]
 |a::l,fs=>∃c r,fs=c++r∧c.length=sz∧R a c∧aA R sz l r
section
variable {α:Type} {R S:α→List F→Prop} {sz:Nat}
theorem aA.mono(h:∀a c,R a c→S a c):∀{l:List α} {fs:List F},aA R sz l fs→aA S sz l fs
 |[],_,H=>H
 |a::l,fs,H=>by
  obtain⟨c,r,h1,h2,h3,h4⟩:=H
  exact⟨c,r,h1,h2,h _ _ h3,aA.mono h h4⟩
theorem aA.len:∀{l:List α} {fs:List F},aA R sz l fs→fs.length=l.length*sz
 |[],fs,H=>by have H:fs=[]:=H;subst H;simp
 |a::l,fs,H=>by
  obtain⟨c,r,rfl,h2,h3,h4⟩:=H
  rw[List.length_append,h2,h4.len,List.length_cons,Nat.add_mul]
  omega
theorem aA.append:∀{l k:List α} {fs gs:List F},aA R sz l fs→aA R sz k gs→aA R sz (l++k) (fs++gs)
 |[],k,fs,gs,H,K=>by have H:fs=[]:=H;subst H;exact K
 |a::l,k,fs,gs,H,K=>by
  obtain⟨c,r,rfl,h2,h3,h4⟩:=H
  exact⟨c,r++gs,by rw[List.append_assoc],h2,h3,h4.append K⟩
theorem aA.one{a:α}{c:List F}(h:R a c)(hc:c.length=sz):aA R sz [a] c:=⟨c,[],sm,hc,h,rfl⟩
theorem aA.snoc{l:List α}{fs c:List F}{a:α}(H:aA R sz l fs)(h:R a c)(hc:c.length=sz):aA R sz (l++[a]) (fs++c):=H.append (aA.one h hc)
theorem aA.at:∀{l:List α} {fs:List F} {i:Nat} {a:α},aA R sz l fs→l[i]?=some a→∃c,(fs.drop (i*sz)).take sz=c∧c.length=sz∧R a c
 |[],_,i,a,_,h=>by simp at h
 |b::l,fs,0,a,H,h=>by
  obtain⟨c,r,rfl,h2,h3,h4⟩:=H
  simp at h
  subst h
  exact⟨c,by rw[Nat.zero_mul,List.drop_zero,List.take_append_of_le_length om,List.take_of_length_le om],h2,h3⟩
 |b::l,fs,i+1,a,H,h=>by
  obtain⟨c,r,rfl,h2,h3,h4⟩:=H
  obtain⟨c',g1,g2,g3⟩:=h4.at (i:=i) (a:=a) (by simpa using h)
  refine⟨c',?_,g2,g3⟩
  rw[Nat.add_mul,Nat.one_mul,Nat.add_comm,←h2,List.drop_append,List.drop_of_length_le om,List.nil_append,show c.length+i*c.length-c.length=i*c.length by omega,h2]
  exact g1
theorem aA.set:∀{l:List α} {fs c:List F} {i:Nat} {a:α},aA R sz l fs→i<l.length→R a c→c.length=sz→aA R sz (l.set i a) (aJ fs (i*sz) c)
 |[],_,_,i,a,_,h,_,_=>by simp at h
 |b::l,fs,c,0,a,H,h,hr,hc=>by
  obtain⟨d,r,rfl,h2,h3,h4⟩:=H
  refine⟨c,r,?_,hc,hr,h4⟩
  unfold aJ
  rw[Nat.zero_mul,List.take_zero,List.nil_append,Nat.zero_add,hc,←h2,List.drop_append,List.drop_of_length_le (Nat.le_refl _)]
  simp
 |b::l,fs,c,i+1,a,H,h,hr,hc=>by
  obtain⟨d,r,rfl,h2,h3,h4⟩:=H
  refine⟨d,aJ r (i*sz) c,?_,h2,h3,h4.set (i:=i) (by simpa using h) hr hc⟩
  unfold aJ
  have e:(i+1)*sz=d.length+i*sz:=by rw[Nat.add_mul,h2];omega
  rw[e,List.take_append,List.take_of_length_le om,show d.length+i*sz-d.length=i*sz by omega,List.drop_append,List.drop_of_length_le om,show d.length+i*sz+c.length-d.length=i*sz+c.length by omega]
  simp
end
/-- a slice of such things, in cells -/
def ch{α:Type}(R:Heap→α→List F→Prop)(sz:Nat)(X:Heap)(f:F)(l:List α):Prop:=(f=.sl0∧l=[])∨∃id off cap all ex,f=.sl id off sz l.length cap∧X id=some (.cells all ex)∧off+l.length*sz≤all.length∧aA (R X) sz l ((all.drop off).take (l.length*sz))
theorem ch.mono{α:Type}{R:Heap→α→List F→Prop}{sz:Nat}(hR:∀X Y a c,ab X Y→R X a c→R Y a c){X Y:Heap}(hm:ab X Y){f:F}{l:List α}(h:ch R sz X f l):ch R sz Y f l:=by
 rcases h with h | ⟨id,off,cap,all,ex,h1,h2,h3,h4⟩
 ·exact .inl h
 ·exact .inr ⟨id,off,cap,all,ex,h1,hm _ _ h2,h3,h4.mono fun a c h=>hR _ _ _ _ hm h⟩
theorem ch.lenA{α:Type}{R:Heap→α→List F→Prop}{sz:Nat}{X:Heap}{f:F}{l:List α}(h:ch R sz X f l):Cm.cd f=some l.length:=by
 rcases h with⟨rfl,rfl⟩|⟨id,off,cap,all,ex,rfl,_⟩<;>rfl
theorem ch.row{α:Type}{R:Heap→α→List F→Prop}{sz:Nat}{X:Heap}{f:F}{l:List α}(h:ch R sz X f l):∃fs,aF X sz f=some fs∧aA (R X) sz l fs:=by
 rcases h with⟨rfl,rfl⟩|⟨id,off,cap,all,ex,rfl,h2,h3,h4⟩
 ·exact⟨[],rfl,rfl⟩
 ·exact⟨_,by simp only[aF,if_true,h2];rw[if_pos h3],h4⟩
theorem ch.at{α:Type}{R:Heap→α→List F→Prop}{sz:Nat}{X:Heap}{f:F}{l:List α}(h:ch R sz X f l){i:Nat}{a:α}(hi:l[i]?=some a):
 ∃id off cap all ex c,f=.sl id off sz l.length cap∧X id=some (.cells all ex)∧off+i*sz+sz≤all.length∧(all.drop (off+i*sz)).take sz=c∧R X a c:=by
 rcases h with⟨rfl,rfl⟩|⟨id,off,cap,all,ex,rfl,h2,h3,h4⟩
 ·simp at hi
 ·obtain⟨c,g1,g2,g3⟩:=h4.at hi
  have hil:i<l.length:=by
   rcases Nat.lt_or_ge i l.length with g | g
   ·exact g
   ·rw[List.getElem?_eq_none g]at hi;cases hi
  have hle:(i+1)*sz≤l.length*sz:=Nat.mul_le_mul_right _ hil
  rw[Nat.add_mul,Nat.one_mul]at hle
  refine⟨id,off,cap,all,ex,c,rfl,h2,om,?_,g3⟩
  rw[←g1,List.drop_take,List.take_take,List.drop_drop,Nat.min_eq_left om]
theorem ch.of_acc{α:Type}{R:Heap→α→List F→Prop}{sz:Nat}{X:Heap}{a:F}{fs:List F}{l:List α}(ha:bO sz a fs)(hsz:0<sz)(hX:∀k o z len c,a=.sl k o z len c→X k=some (.cells fs false))(h:aA (R X) sz l fs):ch R sz X a l:=by
 have hl:=h.len
 rcases ha with⟨rfl,rfl⟩|⟨k,len,rfl,h1⟩
 ·left
  refine⟨rfl,List.eq_nil_of_length_eq_zero ?_⟩
  have hl:0=l.length*sz:=hl
  rcases Nat.mul_eq_zero.1 hl.symm with h | h
  ·exact h
  ·omega
 ·right
  have:len=l.length:=Nat.eq_of_mul_eq_mul_right hsz om
  subst this
  refine⟨k,0,none,fs,false,rfl,hX _ _ _ _ _ rfl,om,?_⟩
  rw[List.drop_zero,List.take_of_length_le om]
  exact h
/-- a record: a symbol of a block of an object -/
structure Rc where
 b:Nat
 e:Nat
 d:List Nat
def cA(ip ik u B N M:Nat)(X:Heap)(r:Rc)(c:List F):Prop:=∃g,c=[iN ip,iN ik,iN B,iN N,iN M,iN r.b,iN r.e,.bool false,iN u,g]∧aB X g r.d
theorem cA.mono{ip ik u B N M:Nat}(X Y:Heap)(r:Rc)(c:List F)(hm:ab X Y)(h:cA ip ik u B N M X r c):cA ip ik u B N M Y r c:=by
 obtain⟨g,h1,h2⟩:=h
 exact⟨g,h1,h2.mono hm⟩
abbrev j3(ip ik u B N M:Nat):=ch (cA ip ik u B N M) 10
noncomputable def lS(N x i:Nat)(q:Nat×List (List Nat)):List Rc:=(List.range (q.1+x)).map fun e=>⟨i,e,a9 N (cO q.1 e) q.2⟩
/-- the first symbols of the first blocks -/
noncomputable def recU(N x:Nat)(bl:List (Nat×List (List Nat))):Nat→List Rc
 |0=>[]
 |i+1=>recU N x bl i++lS N x i ((bl[i]?).getD (0,[]))
theorem i0.mx{data:List Nat}{B N M i:Nat}{q:Nat×List (List Nat)}(hb:B8 data)(h:i0 data B N M i q):Mx (lK q.1) N q.2:=by
 obtain⟨h1,h2⟩:=h
 have:=h2.mx (lh (k:=q.1) (es:=List.range q.1) (by rw[List.length_range,h1];exact rY hb _ _ _ _))
 exact⟨this.1,this.2⟩
theorem aw.atR{α β:Type}{R:α→β→Prop}:∀{l:List α} {k:List β},aw R l k→∀{i:Nat} {b:β},k[i]?=some b→∃a,l[i]?=some a∧R a b
 |a::l,b::k,H,0,x,h=>by simp at h;subst h;exact⟨a,sm,H.1⟩
 |a::l,b::k,H,i+1,x,h=>by simpa using aw.atR H.2 (i:=i) (b:=x) (by simpa using h)
 |[],[],_,i,x,h=>by simp at h
 |[],_::_,H,_,_,_=>H.elim
 |_::_,[],H,_,_,_=>H.elim
theorem AE{X:Heap}{n:Nat}{o ip ik u B N M x:Nat}(data:List Nat)(bl:List (Nat×List (List Nat)))(h:b7 B N M)(hb8:B8 data)(hx4:x≤4)(hO:nz X o B N M bl)(hbl:bl.length=blkS B N M)(hS:eQ data B N M bl)(ht:ap X n):af 9 [vf (.ptr (o) (0)),.u (.agg [iN ip,iN ik]),vi x,vi u] X n fun v X'=>∃g,v=vf g∧j3 ip ik u B N M X' g (recU N x bl bl.length):=by
 refine af.of_to kr ?_
 have s0:=aa.ini ht
 have hm0:ab X X:=ab.rfl
 obtain⟨ao,fs0,hO,hr,hA⟩:=hO
 have hfl:fs0.length=bl.length:=hA.length.symm
 have hbp:=iB h
 have hN0:=h.n1
 have hN20:=h.n2
 refine ag ?_
 obtain⟨H1,s2,J3⟩:=cu s0 (.cells [iN ip,iN ik] true)
 refine ov 5 (J3 _ _ (vf (.ptr (n) (0)))) (ae 1 (sq (ah 2 (ar (nx (ah 1 (aP 3 (ov 20 (am (off:=3) (x:=ao) (s2.mono _ _ hO) kr) (ov 21 (lv fs0.length (cQ hr)) (ae 1 (bk 0 (To.loop kr (aC.for (fs0.length) (fun i A Hq nq=>∃(Y:Heap) (a:F) (fs:List F),aL A [(0,vf (.ptr (o) (0))),(2,vi x),(3,vi u),(5,vf (.ptr (n) (0))),(9,vf (a)),(20,vf (ao)),(21,vi fs0.length),(22,vi i)]∧aa Y Hq nq ([(n,.cells [iN ip,iN ik] true)]++(a_ (a) (fs)++[]))∧(ab X Y)∧(Y o=some (.cells [iN B,iN N,iN M,ao] true))∧(aF Y 1 ao=some fs0)∧(aw (kd N Y) fs0 bl)∧(bO 10 a fs)∧(aA (cA ip ik u B N M Y) 10 (recU N x bl i) fs)∧(fs.length≤i*200)) ⟨X,.sl0,[],az (ts:=[0,2,3,5,9,20,21,22]) kr,s2,(hm0),(hO),(hr),(hA),(bO.nil 10),(rfl),sm⟩ (fun i A H4 n5 hi hI=>?_) (fun A H4 n5 hI=>?_))))))))))))))
 ·obtain⟨Y,a,fs,hT,s6,hm0,hO,hr,hA,ha,hc,hl⟩:=hI
  refine To.keep _ ?_ hT.sub
  obtain⟨q,hbi⟩:∃q,bl[i]?=some q:=⟨_,List.getElem?_eq_getElem om⟩
  obtain⟨k,cs⟩:=q
  obtain⟨f0,hx,bb,rfl,hBv⟩:=hA.atR hbi
  have hq2:=hS i _ hbi
  have hcs:=hq2.mx hb8
  have hkb:=(dq h).2.2 i om
  have hk:k=kS B N M i:=hq2.1
  have h1:1≤k:=by omega
  have h8:k≤8:=by omega
  obtain⟨lid,loff,lcap,rfl,hlat⟩:=cW hr om
  refine ag (ov 23 (lT i fs0.length) (aQ (aM (nx (aD 1 (ai 1 (ov 25 (ix lid loff 1 fs0.length i) (ov 26 (lx lid (loff+i*1) (.ptr bb 0) (by rw[Nat.mul_one];exact(hlat i _ hx).mono (s6.mono _))) ?_))))))))
  obtain⟨pf,hbb,hpf⟩:=id hBv
  refine ae 2 (ai 4 (ov 31 (am (off:=0) (x:=iN k) (s6.mono _ _ hbb) kr) (go 1 (ov 33 (dR (mx:=false) (x:=((x:Nat):Int)) (y:=(100:Int)) (z:=((x:Nat):Int)) (by simp only[Bool.false_eq_true,if_false]; split<;>omega) kr) (ov 34 (dR (mx:=true) (x:=(0:Int)) (y:=((x:Nat):Int)) (z:=((x:Nat):Int)) (by simp only[if_true]; split<;>omega) kr) (ov 35 (aN k x) (ae 1 (bk 2 (To.loop kr (aC.for (k+x) (fun e A Hq nq=>∃(Y:Heap) (a:F) (fs:List F),aL A [(0,vf (.ptr (o) (0))),(3,vi u),(5,vf (.ptr (n) (0))),(2,vi x),(9,vf (a)),(10,vi i),(11,vf (.ptr (bb) (0))),(20,vf (.sl (lid) (loff) 1 (fs0.length) lcap)),(21,vi fs0.length),(22,vi i),(35,vi (k+x)),(36,vi e)]∧aa Y Hq nq ([(n,.cells [iN ip,iN ik] true)]++(a_ (a) (fs)++[]))∧(ab X Y)∧(Y o=some (.cells [iN B,iN N,iN M,.sl lid loff 1 fs0.length lcap] true))∧(aF Y 1 (.sl lid loff 1 fs0.length lcap)=some fs0)∧(aw (kd N Y) fs0 bl)∧(jT Y bb k N cs)∧(bO 10 a fs)∧(aA (cA ip ik u B N M Y) 10 (recU N x bl i++(List.range e).map fun e=>⟨i,e,a9 N (cO k e) cs⟩) fs)∧(fs.length≤i*200+e*10)) ⟨Y,a,fs,az (ts:=[0,3,5,2,9,10,11,20,21,22,35,36]) kr,s6,(hm0),(hO),(hr),(hA),(hBv),(ha),(by simpa using hc),om⟩ (fun e A H7 n8 hi hI=>?_) (fun A H7 n8 hI=>?_)))))))))))
  ·obtain⟨Y,a,fs,hT,s9,hm0,hO,hr,hA,hBv,ha,hc,hl⟩:=hI
   refine To.keep _ ?_ hT.sub
   refine ag (ov 37 (lT e (k+x)) (aQ (aM (nx (aD 3 (ah 2 (ai 2 ?_)))))))
   obtain⟨_,_,n3,hc12,hm13,ht14,⟨g,rfl,hg⟩⟩:=(AW cs h1 h8 (oL h1 h8 om) om hBv hcs hN0 om s9.topX:af 26 [vf (.ptr (bb) (0)),vi e] Y (n8) _)
   obtain⟨_,hc16,s⟩:=s9.call hc12 hm13 ht14
   have f:=hm13 _ _ hO
   have hm0:=hm0.tr hm13
   have hr:=aO hm13 hr
   have hBv:=hBv.mono hm13
   have hc:=hc.mono fun _ _ h=>h.mono _ _ _ _ hm13
   have hA:=hA.mono fun _ _ q=>q.mono hm13
   refine ov 42 (jC hc16) (ae 5 (To.draw [0,1,2,3,4,5,6,7,8,9,10,11,12,13] cX kr kr (Sd.go (L:=[1,2,3,4,5,6,7,8,9,10,11,12,13]) [0] kr (Sd.read (some 46) (n) kr kr kr trivial (aG (off:=0) (sz:=2) (c:=[iN ip,iN ik]) (s.at 0 rfl) sm rfl kr) (Sd.go (L:=[5,6,7,8,9,10,11,12,13]) [2,3,4] kr (Sd.read (some 50) (o) kr kr kr trivial (aG (off:=0) (sz:=3) (c:=[iN B,iN N,iN M]) (s.mono _ _ f) sm rfl kr) (Sd.go (L:=[11,12,13]) [6,7,8,9,10] kr ?_)))))))
   obtain⟨W,_,s,m,f1,J⟩:=bj s (.cells [iN ip,iN ik,iN B,iN N,iN M,iN i,iN e,.bool false,iN u,g] true)
   have f2:=m _ _ f
   have hm0:=hm0.tr m
   have hr:=aO m hr
   have hBv:=hBv.mono m
   have hc:=hc.mono fun _ _ h=>h.mono _ _ _ _ m
   have hA:=hA.mono fun _ _ q=>q.mono m
   have hg:=hg.mono m
   refine Sd.eff (some 56) kr kr (J _ _ (vf (.sl (n3) (0) 10 (1) none)) kr) ⟨.inl kr,.inl kr,trivial⟩ ?_
   obtain⟨_,_,_,ha29,s,J⟩:=eW (sz:=10) (bytes:=96) (x:=.sl (n3) (0) 10 (1) none) (fs:=fs) (new:=[iN ip,iN ik,iN B,iN N,iN M,iN i,iN e,.bool false,iN u,g]) (M1:=[(n,.cells [iN ip,iN ik] true)]) (M2:=[]) s ha (bf (s.mono _ _ f1) rfl) (rfl) om om
   refine Sd.eff (some 57) kr kr (J _ _ kr) ⟨.inl kr,.inl kr,trivial⟩ (Sd.go (L:=[]) [13] kr (Sd.done ?_))
   show To Tryz.prog 9 [1,1,1,0,0,1,1,0,0,1,1,0,0,1,0,1,1,1] _ _ _ _
   refine rg (ov 58 (aN e 1) (aR 1 ?_))
   exact .inl ⟨rfl,W,_,_,az (ts:=[0,3,5,2,9,10,11,20,21,22,35,36]) kr,s,(hm0),(f2),(hr),(hA),(hBv),(ha29),(by rw[mg,←List.append_assoc];exact hc.snoc ⟨g,rfl,hg⟩ rfl),(by simp;omega)⟩
  ·obtain⟨Y,a,fs,hT,s,hm0,hO,hr,hA,hBv,ha,hc,hl⟩:=hI
   refine To.keep _ ?_ hT.sub
   refine ag (ov 37 (au (cr .i64 (x:=(((k+x):Nat):Int)) (y:=((k+x:Nat):Int)) sm)) (aQ (iF (To.exit 2 kr ?_))))
   refine⟨sm,?_⟩
   show To Tryz.prog 9 [1,1,1,0,0,1,0,1,1,1] _ _ _ _
   refine rg (ov 59 (aN i 1) (aR 1 ?_))
   exact .inl ⟨rfl,Y,_,_,az (ts:=[0,2,3,5,9,20,21,22]) kr,s,(hm0),(hO),(hr),(hA),(ha),(by show aA _ 10 (recU N x bl i++lS N x i ((bl[i]?).getD (0,[]))) fs;rw[hbi,Option.getD_some];exact hc),(by rw[Nat.add_mul];omega)⟩
 ·obtain⟨Y,a,fs,hT,s,hm0,hO,hr,hA,ha,hc,hl⟩:=hI
  refine To.keep _ ?_ hT.sub
  refine ag (ov 23 (au (cr .i64 (x:=(((fs0.length):Nat):Int)) (y:=((fs0.length:Nat):Int)) sm)) (aj ?_))
  obtain⟨W,m1,s,hrow,hrowk⟩:=aa.acc (sz:=10) (M1:=[(n,.cells [iN ip,iN ik] true)]) (M2:=[]) (a:=a) (fs:=fs) (by simpa using s) ha
  have f3:=m1 _ _ hO
  have hm0:=hm0.tr m1
  have hc:=hc.mono fun _ _ h=>h.mono _ _ _ _ m1
  have s:aa W H4 (n5) [(n,.cells [iN ip,iN ik] true)]:=by simpa using s
  refine sq (iF (To.exit 0 kr ?_))
  refine⟨sm,?_⟩
  show To Tryz.prog 9 [1,1,1,1] _ _ _ _
  refine ah 2 (rt ?_)
  exact⟨.inr rfl,_,kr,W,_,s,hm0,_,rfl,by rw[hfl]at hc;exact ch.of_acc ha om hrowk hc⟩
end Go.Proofs.YtkimkgbppegkhaaGreat.Cm
