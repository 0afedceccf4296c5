/- The clean machine's walks of solving (4): Solve. · Calls that turn what some objects hold, whatever lies beside them; lists that own their block. No program is walked here. · The clean machine: calls of the elements' functions, whose results are told by their contracts. -/
import Derived.Test.YtkimkgbppegkhaaGreatGc
import Derived.Test.YtkimkgbppegkhaaGreatAb
import Derived.Test.YtkimkgbppegkhaaGreatFnR
set_option linter.unusedVariables false
set_option linter.unusedSimpArgs false
namespace Go.Proofs.YtkimkgbppegkhaaGreat.Cm
open Go Go.RowKit Go.Proofs.YtkimkgbppegkhaaGreat.Gf
theorem bO.some{sz:Nat}{a:F}{fs:List F}(h:bO sz a fs)(h0:0<fs.length):∃k len,a=.sl k 0 sz len none∧fs.length=len*sz:=by
 rcases h with⟨rfl,rfl⟩ | h
 ·simp at h0
 ·exact h
theorem z9{X H:Heap}{n sz bytes m id:Nat}{M:List (Nat×O)}{x:F}{new:List F}(s:aa X H n M)(hid:H id=some (.cells [] true))(hx:aF H sz x=some new)(hm:cd x=some m)(h0:0<m)(hsz:0<sz)(hb:m*bytes*2≤140737488355328):
 ∃H',aa X H' (n+1) ((n,.cells new false)::M)∧∀(o:Oper) (r:Operand→Option V) (_:jA Tryz.prog o r=some (sz,bytes,.sl id 0 sz 0 none,x):=by kernel_rfl),aE Tryz.prog o r H n (vf (.sl n 0 sz m none)) H' (n+1):=by
 refine⟨_,s.newM (.cells new false),fun o r hk=>?_⟩
 have hmpos:0<m*sz:=Nat.mul_pos h0 hsz
 exact fB hx hm (ef:=(vf (.sl n 0 sz m none),[(n,some (.cells new false))],1)) (by
  simp only[df,if_true,hid]
  rw[if_pos sm,if_pos (by simpa using hb),if_neg (by simp;omega)]
  simp) hk
theorem u_{N:Nat}{r:List Nat}(h:B8 r):Rw N (cE N [r]):=by
 show Rw N (aX (zs N) r)
 exact⟨by rw[iz];simp,lc (tm N) h⟩
theorem CR{N:Nat}{r:List Nat}(h:Rw N r):cE N [r]=r:=by
 show aX (zs N) r=r
 rw[←h.1]
 exact mH r
theorem aw.mem{α β:Type}{R:α→β→Prop}{l:List α}{k:List β}(h:aw R l k){b:β}(hb:b∈k):∃a,R a b:=by
 obtain⟨i,hi,rfl⟩:=List.mem_iff_getElem.1 hb
 obtain⟨a,_,h2⟩:=h.nth hi
 exact⟨a,h2⟩
theorem bJ.b8{X:Heap}{f:F}{rs:List (List Nat)}(h:bJ X f rs):∀r∈rs,B8 r:=fun r hr=>by
 obtain⟨fs,_,hA⟩:=h
 obtain⟨a,ha⟩:=hA.mem hr
 exact ha.2.1
theorem yI{len N:Nat}{rs:List (List Nat)}(hl:rs.length=len)(hb:∀r∈rs,B8 r):Mx len N (rs.map fun r=>cE N [r]):=⟨by simp[hl],fun r hr=>by
 obtain⟨q,hq,rfl⟩:=List.mem_map.1 hr
 exact u_ (hb q hq)⟩
theorem GL{l:List Nat}{i:Nat}{x:F}(h:(bs l)[i]?=some x):∃y,l[i]?=some y∧x=.int .u8 (y:Int):=by
 unfold bs at h
 rw[List.getElem?_map,Option.map_eq_some_iff]at h
 obtain⟨y,h1,h2⟩:=h
 exact⟨y,h1,h2.symm⟩
theorem wE{L:List (List Nat)}{i:Nat}(hi:i<L.length):L[i]?=some (bc L i):=by
 unfold bc
 rw[List.getElem?_eq_getElem hi]
 rfl
theorem EI{l:List Nat}{j:Nat}(hj:j<l.length):(l[j]?).getD 0∈l:=by
 rw[List.getElem?_eq_getElem hj]
 exact List.getElem_mem hj
theorem Fx{H:Heap}{id W:Nat}{fs:List F}{ex:Bool}{cap:Option Nat}(h:H id=some (.cells fs ex))(hW:W≤fs.length):aF H 1 (.sl id (0+0*1) 1 W cap)=some (fs.take W):=by
 simp only[aF,if_true,h]
 rw[if_pos om]
 simp
theorem Em{X:Heap}{n:Nat}{f:F}{cs:List F}(hr:aF X 1 f=some cs)(h0:0<cs.length)(hlt:cs.length<100000)(ht:ap X n):af 101 [vf (f)] X n fun v X'=>∃g,v=vf g∧aF X' 1 g=some cs:=by
 refine af.of_to kr ?_
 have s0:=aa.ini ht
 have hm0:ab X X:=ab.rfl
 obtain⟨id,off,cap,rfl,hat⟩:=cW hr h0
 refine ah 1 (sq (ah 2 (ar (nx (ag ?_)))))
 obtain⟨X1,H2,s3,m4,f5,J6⟩:=bj s0 (.cells [] true)
 have hm0:=hm0.tr m4
 have hr:=aO m4 hr
 refine ov 5 (J6 _ _ (vf (.sl (n) (0) 1 (0) none))) (go 1 ?_)
 obtain⟨H7,s8,J9⟩:=z9 (sz:=1) (bytes:=24) (m:=cs.length) (x:=.sl (id) (off) 1 (cs.length) cap) s3 (s3.mono _ _ f5) (aO s3.mono hr) (rfl) om om om
 refine ov 7 (J9 _ _) (ax 1 ?_)
 exact⟨.inr rfl,vf (.sl (n+1) 0 1 cs.length none),kr,_,_,s8.frz.1,hm0.tr s8.frz.2,_,rfl,bf (bG _ _ _) sm⟩
theorem Hh{X:Heap}{n:Nat}{y:Nat}(ht:ap X n):af 100 [vf (.int .u8 ((y:Nat):Int))] X n fun v X'=>v=vf (.bool (decide (y≠0))):=by
 refine af.of_to kr ?_
 have s0:=aa.ini ht
 have hm0:ab X X:=ab.rfl
 refine ah 1 (ai 1 (ov 4 (au (op:=.neq) (a:=vb y) (b:=vf (.int .u8 0)) (fun t=>pI .u8 ((y:Nat):Int) 0 t)) (ax 1 ?_)))
 exact⟨.inr rfl,vf (.bool (decide (((y:Nat):Int)≠0))),kr,X,_,s0,hm0,by congr 3;exact propext om⟩
theorem DB{X:Heap}{n:Nat}{W N len:Nat}{fm fd:F}(ms ds:List (List Nat))(hm:bJ X fm ms)(hd:bJ X fd ds)(hml:ms.length=len)(hdl:ds.length=len)(h0:0<len)(hlt:len<100000)(hW0:0<W)(hW:W≤300)(hN0:0<N)(hN:N≤1000)(ht:ap X n):af 70 [vi W,vi N,vf (fm),vf (fd)] X n fun v X'=>∃g e,v=.tup [.f g,.f (.int .i64 e)]∧((e=0∧∃out,bJ X' g out∧dV W N len (ms.map fun r=>cE W [r]) (ds.map fun r=>cE N [r]) out)∨(e=4∧g=.sl0∧fO W N len (ms.map fun r=>cE W [r]) (ds.map fun r=>cE N [r]))):=by
 refine af.of_to kr ?_
 have s0:=aa.ini ht
 have hm0:ab X X:=ab.rfl
 refine ah 2 (aP 1 (ov 13 (lF W 1) (go 2 (ov 16 (gF W 300) (go 3 (ov 20 (lF N 1) (go 3 (ov 24 (gF N 1000) (go 3 (ov 28 (lv ms.length hm.lenA) (go 1 (ov 30 (lv ds.length hd.lenA) (ov 31 (uF ms.length ds.length) (ae 1 (ar (nx (ai 2 ?_)))))))))))))))))
 obtain⟨_,Z,_,n1,_,hc14,hm15,s,⟨a1,fs1,rfl,rfl,ha1,hA1⟩⟩:=(xn (N:=W) ms hm om om s0.topX:bF 94 [vi W,vf (fm)] X (n) _)
 obtain⟨G,hc18,s1⟩:=s0.callA hc14 hm15 s
 have hm0:=hm0.tr hm15
 have hm:=hm.mono hm15
 have hd:=hd.mono hm15
 have s2:aa Z G n1 ([]++(a_ (a1) (fs1)++[])):=by simpa using s1
 refine ov 35 (jC hc18) (go 2 ?_)
 obtain⟨_,Z,_,n3,_,hc25,hm26,s3,⟨a2,fs2,rfl,rfl,ha2,hB1⟩⟩:=(xn (N:=N) ds hd om om s2.topX:bF 94 [vi N,vf (fd)] Z (n1) _)
 obtain⟨G,hc29,s4⟩:=s2.callA hc25 hm26 s3
 have hm0:=hm0.tr hm26
 have hm:=hm.mono hm26
 have hd:=hd.mono hm26
 have hA1:=hA1.mono fun _ _ q=>q.mono hm26
 have s5:aa Z G n3 ([]++(a_ (a1) (fs1)++(a_ (a2) (fs2)++[]))):=by simpa using s4
 refine ov 38 (jC hc29) ?_
 have hl1:fs1.length=len:=by have:=hA1.length;simp at this;omega
 have hl2:fs2.length=len:=by have:=hB1.length;simp at this;omega
 obtain⟨im,l1,rfl,hq1⟩:=ha1.some om
 obtain⟨di,l2,rfl,hq2⟩:=ha2.some om
 cases(show len=l1 by omega)
 cases(show len=l2 by omega)
 have hms:=yI (N:=W) hml hm.b8
 have hds:=yI (N:=N) hdl hd.b8
 skip
 have s6:aa Z G n3 [(im,.cells (fs1) false),(di,.cells (fs2) false)]:=s5
 refine ae 2 (aP 3 ?_)
 obtain⟨_,_,_,hc35,k,Z,fs3,fs4,ts,rfl,s7,hm38,hA3,hB3,hts,hkW,hkl,hU,hz⟩:=BQ (W:=W) (N:=N) (len:=len) _ _ s6 hA1 hB1 hms hds hlt om om om om
 have hm0:=hm0.tr hm38
 have hm:=hm.mono hm38
 refine ov 42 (jC hc35) ?_
 have hmm:=hms.runs hts
 have hdm:=hds.runs hts
 have hl4:fs4.length=len:=by have:=hB3.length;rw[hdm.1]at this;exact this.symm
 rcases Nat.lt_or_ge k W with hkW2 | hkW2
 ·refine go 1 (ov 44 (lT k W) (aj (iT (ah 2 (rt ?_)))))
  exact⟨.inr rfl,_,kr,Z,_,s7,hm0,_,_,rfl,.inr ⟨rfl,rfl,⟨ts,hts,.inl ⟨k,hkW2,hkl,hU.units hmm om,fun i r hi hr=>by
   have hil:i<len:=by
    rcases Nat.lt_or_ge i len with h | h
    ·exact h
    ·rw[List.getElem?_eq_none (by rw[hmm.1];exact h)]at hr;cases hr
   have h1:=vT hmm hil hkW2
   rw[hz hkW2 i hi hil]at h1
   have e:bc (aK ts (ms.map fun r=>cE W [r])) i=r:=by unfold bc;rw[hr];rfl
   rw[←e];exact h1⟩⟩⟩⟩
 ·refine go 1 (ov 44 (lF k W) (aj ?_))
  cases(show W=k by omega)
  have s8:=(s7.del 0).frz.1
  have f1:(upd Z di (some (.cells fs4 false))) di=some (.cells fs4 false):=bG _ _ _
  have hmz:=(s7.del 0).frz.2
  have hm0:=hm0.tr hmz
  have hm:=hm.mono hmz
  have hB3:=hB3.mono fun _ _ q=>q.mono hmz
  refine ar (nx (aP 2 (ov 47 (c7 (id:=di) (off:=0) (sz:=1) (len:=len) (cap:=none) (lo:=some W) (hi:=none) (L:=len) (l:=W) (h:=len) (by rw[s8.mono _ _ f1];exact congrArg some hl4) rfl rfl om om sm om) (ov 48 (ln (len-W)) (ae 1 (bk 0 (To.loop kr (aC.for (len-W) (fun i A H n=>∃(Y:Heap),aL A [(0,vi W),(3,vf (.sl (di) (0) 1 (len) none)),(47,vf (.sl (di) (0+W*1) 1 (len-W) none)),(48,vi (len-W)),(49,vi i)]∧aa Y H n []∧ab X Y∧Y di=some (.cells fs4 false)∧aw (aB Y) fs4 (aK ts (ds.map fun r=>cE N [r]))∧∀j e,W≤j→j<W+i→(aK ts (ds.map fun r=>cE N [r]))[j]?=some e→∀x∈e,x=0) ⟨(upd Z di (some (.cells fs4 false))),az (ts:=[0,3,47,48,49]) kr,s8,(hm0),(f1),(hB3),(fun j e h1 h2=>by omega)⟩ (fun i A H n hi hI=>?_) (fun A H n hI=>?_)))))))))
  ·obtain⟨Y,hT,s9,hm0,hdi,hB3,hzz⟩:=hI
   refine To.keep _ ?_ hT.sub
   have hwi:W+i<len:=by omega
   obtain⟨g,hg0,hg1⟩:=hB3.row (i:=W+i) (by rw[hdm.1];exact hwi)
   refine ag (ov 50 (lT i (len-W)) (aQ (aM (nx (aD 1 (ag (ov 51 (ix di (0+W*1) 1 (len-W) i) (ov 52 (lx di ((0+W*1)+i*1) g (by exact .inl ⟨fs4,false,s9.mono _ _ hdi,by rw[show 0+W*1+i*1=W+i by omega];exact hg0⟩)) ?_))))))))
   obtain⟨v,X2,n2,hc,hm,ht2,hfi⟩:=(Cj (g:=100) (caps:=[]) (fun j=>decide (((bc (aK ts (ds.map fun r=>cE N [r])) (W+i))[j]?).getD 0≠0)) hg1.1 (by rw[bg,(hdm.row hwi).1];omega) kr (fun j x hx Y' m' _ ht'=>by
    obtain⟨y,hy,rfl⟩:=GL hx
    rw[hy]
    exact Hh ht') s9.topX:af _ _ _ _ _)
   rcases hfi with⟨rfl,j,hj,hpj⟩|⟨rfl,hn⟩
   ·refine ae 1 (ai 1 ?_)
    obtain⟨_,Z,_,hc44,hm45,ht46,rfl⟩:=(af.same hc hm ht2:af 99 [vf (g),.u (.fn 100 [])] Y (n) _)
    obtain⟨_,hc48,s10⟩:=s9.call hc44 hm45 ht46
    have f2:=hm45 _ _ hdi
    have hm0:=hm0.tr hm45
    have hdi:=hm45 _ _ hdi
    refine ov 54 (jC hc48) (aj (iT (ah 2 (rt (.inr ⟨sm,?_⟩)))))
    exact⟨.inr rfl,_,kr,Z,_,s10,hm0,_,_,rfl,.inr ⟨rfl,rfl,⟨ts,hts,.inr ⟨hU.units hmm om,om,W+i,_,om,wE (by rw[hdm.1];exact hwi),_,EI (by rw[bg]at hj;exact hj),of_decide_eq_true hpj⟩⟩⟩⟩
   ·refine ae 1 (ai 1 ?_)
    obtain⟨_,Z,_,hc53,hm54,ht55,rfl⟩:=(af.same hc hm ht2:af 99 [vf (g),.u (.fn 100 [])] Y (n) _)
    obtain⟨_,hc57,s11⟩:=s9.call hc53 hm54 ht55
    have f3:=hm54 _ _ hdi
    have hm0:=hm0.tr hm54
    have hB3:=hB3.mono fun _ _ q=>q.mono hm54
    have hdi:=hm54 _ _ hdi
    refine ov 54 (jC hc57) (aj (ar (nx (rg (ov 55 (aN i 1) (aR 1 ?_))))))
    exact .inl ⟨rfl,Z,az (ts:=[0,3,47,48,49]) kr,s11,(hm0),(hdi),(hB3),(fun j e h1 h2 he x hx=>by
     rcases Nat.lt_or_ge j (W+i)with h | h
     ·exact hzz j e h1 h he x hx
     ·have hjw:j=W+i:=by omega
      subst hjw
      rw[wE (by rw[hdm.1];exact hwi)]at he
      cases he
      obtain⟨q,hq,rfl⟩:=List.mem_iff_getElem.1 hx
      have:=of_decide_eq_false (hn q (by rw[bg];exact hq))
      rw[List.getElem?_eq_getElem hq]at this
      exact Classical.byContradiction this)⟩
  ·obtain⟨Y,hT,s12,hm0,hdi,hB3,hzz⟩:=hI
   refine To.keep _ ?_ hT.sub
   refine ag (ov 50 (au (cr .i64 (x:=(((len-W):Nat):Int)) (y:=((len-W:Nat):Int)) sm)) (aQ (iF (To.exit 0 kr ?_))))
   refine⟨sm,?_⟩
   show To Tryz.prog 70 [1,1,1,1,1] _ _ _ _
   refine ai 2 (ov 58 (c7 (id:=di) (off:=0) (sz:=1) (len:=len) (cap:=none) (lo:=none) (hi:=some W) (L:=len) (l:=0) (h:=W) (by rw[s12.mono _ _ hdi];exact congrArg some hl4) rfl rfl om om sm om) ?_)
   obtain⟨_,Z,_,hc63,hm64,ht65,⟨g,rfl,hg⟩⟩:=(Em (Fx (W:=W-0) hdi om) (by simp;omega) (by simp;omega) s12.topX:af 101 [vf (.sl (di) (0+0*1) 1 (W-0) none)] Y (n) _)
   obtain⟨_,hc67,s13⟩:=s12.call hc63 hm64 ht65
   have f4:=hm64 _ _ hdi
   have hm0:=hm0.tr hm64
   have hB3:=hB3.mono fun _ _ q=>q.mono hm64
   have hdi:=hm64 _ _ hdi
   refine ov 59 (jC hc67) (ax 2 ?_)
   exact⟨.inr rfl,_,kr,Z,_,s13,hm0,_,_,rfl,.inl ⟨rfl,(aK ts (ds.map fun r=>cE N [r])).take W,⟨_,hg,by rw[Nat.sub_zero];exact hB3.take W⟩,⟨ts,hts,hU.units hmm om,om,rfl,fun j e h1 he=>hzz j e h1 (by rcases Nat.lt_or_ge j len with h | h;omega;rw[List.getElem?_eq_none (by rw[hdm.1];exact h)]at he;cases he) he⟩⟩⟩
set_option maxRecDepth 1000000
theorem xt{P:Program}{f:Nat}{p:List Nat}{A:Tm}{H:Heap}{n:Nat}{K:Ko}(i:Nat)(h:K (.exit i) A H n)(hk:tq (aH P f p)=some i:=by kernel_rfl):To P f p A H n K:=To.exit i hk h
/-- some pieces of a heap, one beside the other -/
def cat:List (List (Nat×O))→List (Nat×O)
 |[]=>[]
 |a::l=>a++cat l
theorem bT:∀(A B:List (List (Nat×O))),cat (A++B)=cat A++cat B
 |[],_=>rfl
 |a::A,B=>by simp only[List.cons_append,cat,bT A B,List.append_assoc]
theorem fP(P:List (Nat×O)):cat [P]=P:=by simp[cat]
theorem jQ(A B:List (List (Nat×O)))(P:List (Nat×O)):(cat (A++P::B)).Perm (P++cat (A++B)):=by
 rw[bT,bT,cat]
 rw[←List.append_assoc,←List.append_assoc]
 exact List.Perm.append_right _ List.perm_append_comm
theorem yR(A B Q:List (List (Nat×O))):cat (A++cat Q::B)=cat (A++(Q++B)):=by
 rw[bT,bT,cat,bT]
/-- a call that turns what P holds, whatever lies beside -/
def al(f:Nat)(args:List V)(X:Heap)(n:Nat)(P:List (Nat×O))(Post:V→Heap→List (Nat×O)→Prop):Prop:=
 ∀A B H,aa X H n (cat (A++P::B))→∃v X' H' n' P',aS Tryz.prog f args H n v H' n'∧ab X X'∧aa X' H' n' (cat (A++P'::B))∧Post v X' P'
section
variable {f:Nat} {args:List V} {X:Heap} {n:Nat}
theorem al.imp{P:List (Nat×O)}{Post Post':V→Heap→List (Nat×O)→Prop}(h:al f args X n P Post)(hp:∀v X' P',Post v X' P'→Post' v X' P'):al f args X n P Post':=fun A B H s=>by
 obtain⟨v,X',H',n',P',h1,h2,h3,h4⟩:=h A B H s
 exact⟨v,X',H',n',P',h1,h2,h3,hp _ _ _ h4⟩
theorem af.turn{P:List (Nat×O)}{Post:V→Heap→Prop}(h:af f args X n Post):al f args X n P fun v X' P'=>P'=P∧Post v X':=fun A B H s=>by
 obtain⟨v,X',n',hc,hm,ht,hp⟩:=h
 obtain⟨H2,hc2,s2⟩:=s.call hc hm ht
 exact⟨v,X',H2,n',P,hc2,hm,s2,rfl,hp⟩
theorem al.perm{P P2:List (Nat×O)}{Post:V→Heap→List (Nat×O)→Prop}(h:al f args X n P Post)(hp:P.Perm P2):al f args X n P2 Post:=fun A B H s=>by
 refine h A B H (s.perm ?_)
 rw[bT,bT]
 exact List.Perm.append_left _ (List.Perm.append_right _ hp.symm)
theorem al.of_to{Ps:List (List (Nat×O))}{Post:V→Heap→List (Nat×O)→Prop}(hb:lm Tryz.prog f args.length=true)
 (h:∀R H,aa X H n (cat (Ps++[R]))→To Tryz.prog f [] (tl (js args 0)) H n (nj Tryz.prog f fun v H' n'=>∃X' P',aa X' H' n' (P'++R)∧ab X X'∧Post v X' P')):al f args X n (cat Ps) Post:=fun A B H s=>by
 have s1:aa X H n (cat (Ps++[cat (A++B)])):=by
  rw[bT,fP]
  exact s.perm (jQ A B (cat Ps))
 obtain⟨v,H',n',h1,X',P',s2,h2,h3⟩:=aS.of_to hb (h _ _ s1)
 exact⟨v,X',H',n',P',h1,h2,s2.perm (jQ A B P').symm,h3⟩
theorem al.on{H:Heap}{P:List (Nat×O)}{Post:V→Heap→List (Nat×O)→Prop}(h:al f args X n P Post)(A B:List (List (Nat×O)))(s:aa X H n (cat (A++P::B))):
 ∃v X' H' n' P',ab X X'∧aa X' H' n' (cat (A++P'::B))∧(∀(o:Oper) (r:Operand→Option V) (_:lI o r=some (f,args):=by kernel_rfl) (_:bX Tryz.prog f=true:=by kernel_rfl),aE Tryz.prog o r H n v H' n')∧Post v X' P':=by
 obtain⟨v,X',H',n',P',h1,h2,h3,h4⟩:=h A B H s
 exact⟨v,X',H',n',P',h2,h3,fun o r hk hg=>b_ hg h1 hk,h4⟩
theorem af.on{H:Heap}{M:List (Nat×O)}{Post:V→Heap→Prop}(h:af f args X n Post)(s:aa X H n M):
 ∃v X' H' n',ab X X'∧aa X' H' n' M∧(∀(o:Oper) (r:Operand→Option V) (_:lI o r=some (f,args):=by kernel_rfl) (_:bX Tryz.prog f=true:=by kernel_rfl),aE Tryz.prog o r H n v H' n')∧Post v X':=by
 obtain⟨v,X',n',hc,hm,ht,hp⟩:=h
 obtain⟨H2,hc2,s2⟩:=s.call hc hm ht
 exact⟨v,X',H2,n',hm,s2,fun o r hk hg=>b_ hg hc2 hk,hp⟩
end
theorem bF.on{f:Nat}{args:List V}{X H:Heap}{n:Nat}{L:List (List (Nat×O))}{Post:V→Heap→List (Nat×O)→Prop}(h:bF f args X n Post)(s:aa X H n (cat L)):
 ∃v X' H' n' M',ab X X'∧aa X' H' n' (cat (L++[M']))∧(∀(o:Oper) (r:Operand→Option V) (_:lI o r=some (f,args):=by kernel_rfl) (_:bX Tryz.prog f=true:=by kernel_rfl),aE Tryz.prog o r H n v H' n')∧Post v X' M':=by
 obtain⟨v,X',H',n',M',hc,hm,s',hp⟩:=h
 obtain⟨H2,hc2,s2⟩:=s.callA hc hm s'
 exact⟨v,X',H2,n',M',hm,by rw[bT,fP];exact s2,fun o r hk hg=>b_ hg hc2 hk,hp⟩
section
variable {X H:Heap} {n:Nat}
theorem ay{M:List (Nat×O)}{L:List (List (Nat×O))}(s:aa X H n (cat (M::L)))(ob:O):∃H',aa X H' (n+1) (cat (((n,ob)::M)::L))∧∀(o:Oper) (r:Operand→Option V) (v:V) (_:mN Tryz.prog o r n=some (v,ob):=by kernel_rfl),aE Tryz.prog o r H n v H' (n+1):=
 ⟨_,s.newM ob,fun _ _ _ hk=>mS hk⟩
theorem yx{M:List (Nat×O)}{L:List (List (Nat×O))}{a:Nat}(s:aa X H n (cat (M::L)))(ti:TI)(ha:a*ti.bytes≤140737488355328){cs:List F}(hcs:ci ti.zero a=cs):∃H',aa X H' (n+1) (cat (((n,.cells cs true)::M)::L))∧∀(o:Oper) (r:Operand→Option V) (_:qB Tryz.prog o r=some (ti,a):=by kernel_rfl),aE Tryz.prog o r H n (vf (.sl n 0 ti.size a none)) H' (n+1):=
 sU s ti ha hcs
theorem sj{M:List (Nat×O)}{L:List (List (Nat×O))}{j:Nat}{p q:Nat×O}(h:M[j]?=some p):(cat (M::L)).set j q=cat (M.set j q::L):=by
 have:j<M.length:=by
  rcases Nat.lt_or_ge j M.length with h1 | h1
  ·exact h1
  ·rw[List.getElem?_eq_none h1]at h;cases h
 simp only[cat]
 rw[List.set_append_left _ _ this]
theorem aI{M:List (Nat×O)}{L:List (List (Nat×O))}(s:aa X H n (cat (M::L)))(j:Nat){id off:Nat}{cs new cs':List F}{ex:Bool}(hj:M[j]?=some (id,.cells cs ex))(hle:off+new.length≤cs.length)(hs:aJ cs off new=cs'):
 ∃H',aa X H' n (cat (M.set j (id,.cells cs' ex)::L))∧∀(o:Oper) (r:Operand→Option V) (_:kp Tryz.prog o r=some (id,off,new):=by kernel_rfl),aE Tryz.prog o r H n cy H' n:=by
 have hj':(cat (M::L))[j]?=some (id,.cells cs ex):=by
  simp only[cat]
  rw[List.getElem?_append_left]
  ·exact hj
  ·rcases Nat.lt_or_ge j M.length with h1 | h1
   ·exact h1
   ·rw[List.getElem?_eq_none h1]at hj;cases hj
 obtain⟨H',s',hJ⟩:=dE s j hj' hle hs
 rw[sj hj]at s'
 exact⟨H',s',fun o r h=>hJ o r h⟩
end
/-- a slice that owns its block: nothing yet, or from the block's begin on -/
def av(sz:Nat)(a:F)(fs:List F)(M:List (Nat×O)):Prop:=(a=.sl0∧fs=[]∧M=[])∨∃k len cs ex,a=.sl k 0 sz len none∧M=[(k,.cells cs ex)]∧len*sz≤cs.length∧fs=cs.take (len*sz)
theorem av.nil(sz:Nat):av sz .sl0 [] []:=.inl ⟨rfl,rfl,rfl⟩
theorem bO.own{sz:Nat}{a:F}{fs:List F}(h:bO sz a fs):av sz a fs (a_ a fs):=by
 rcases h with⟨rfl,rfl⟩|⟨k,len,rfl,h⟩
 ·exact .inl ⟨rfl,rfl,rfl⟩
 ·exact .inr ⟨k,len,fs,false,rfl,rfl,om,by rw[←h,List.take_length]⟩
theorem av.len{sz:Nat}{a:F}{fs:List F}{M:List (Nat×O)}(h:av sz a fs M):∃len,cd a=some len∧fs.length=len*sz:=by
 rcases h with⟨rfl,rfl,rfl⟩|⟨k,len,cs,ex,rfl,rfl,h,rfl⟩
 ·exact⟨0,rfl,sm⟩
 ·exact⟨len,rfl,by rw[List.length_take];omega⟩
theorem av.lenA{sz l:Nat}{a:F}{fs:List F}{M:List (Nat×O)}(h:av sz a fs M)(hsz:0<sz)(hl:fs.length=l*sz):Cm.cd a=some l:=by
 obtain⟨len,h1,h2⟩:=h.len
 rw[h1,Nat.eq_of_mul_eq_mul_right hsz (h2.symm.trans hl)]
theorem av.row{X H:Heap}{n sz:Nat}{A B:List (List (Nat×O))}{a:F}{fs:List F}{M:List (Nat×O)}(h:av sz a fs M)(s:aa X H n (cat (A++M::B))):aF H sz a=some fs:=by
 rcases h with⟨rfl,rfl,rfl⟩|⟨k,len,cs,ex,rfl,rfl,h,rfl⟩
 ·rfl
 ·have:=(s.own (k,.cells cs ex) (by rw[bT];simp[cat])).1
  simp only at this
  simp only[aF,if_true,this]
  rw[if_pos om]
  simp
theorem i8{A B:List (List (Nat×O))}{p:Nat×O}{M:List (Nat×O)}:(cat (A++(p::M)::B)).Perm (p::cat (A++M::B)):=by
 rw[bT,bT,cat,cat]
 exact List.perm_middle
theorem aa.kill{X H:Heap}{n id:Nat}{ob:O}{M:List (Nat×O)}(s:aa X H n ((id,ob)::M)):aa X (upd H id none) n M:=by
 obtain⟨hk1,hk2⟩:=s.own (id,ob) sm
 have hn:=s.nod
 rw[List.map_cons,List.nodup_cons]at hn
 refine⟨fun j o h=>?_,fun j hj=>?_,fun p hp=>?_,hn.2⟩
 ·rw[br]
  ·exact s.mono _ _ h
  ·intro e;rw[e]at h;simp only at hk2;rw[hk2]at h;cases h
 ·by_cases e:j=id
  ·rw[e];exact bG _ _ _
  ·rw[br _ _ e];exact s.top j hj
 ·obtain⟨g1,g2⟩:=s.own p (by simp[hp])
  refine⟨?_,g2⟩
  rw[br]
  ·exact g1
  ·intro e;exact hn.1 (List.mem_map.2 ⟨p,hp,e⟩)
theorem b6{X H:Heap}{n sz bytes m:Nat}(A B:List (List (Nat×O))){a x:F}{fs new:List F}{M:List (Nat×O)}(s:aa X H n (cat (A++M::B)))(ha:av sz a fs M)(hx:aF H sz x=some new)(hm:cd x=some m)(hsz:0<sz)(hb:(fs.length+m)*bytes*2≤140737488355328):
 ∃a' H' n' M',av sz a' (fs++new) M'∧aa X H' n' (cat (A++M'::B))∧∀(o:Oper) (r:Operand→Option V) (_:jA Tryz.prog o r=some (sz,bytes,a,x):=by kernel_rfl),aE Tryz.prog o r H n (vf a') H' n':=by
 have hnew:new.length=m*sz:=by
  cases x<;>simp only[cd]at hm<;>first
   |(cases hm;done)
   |skip
  ·cases hm
   simp only[aF,Option.some.injEq]at hx
   subst hx;simp
  ·cases hm
   exact(dG hx).2.1
 rcases ha with⟨rfl,rfl,rfl⟩|⟨k,len,cs,ex,rfl,rfl,hl,rfl⟩
 ·by_cases h0:m=0
  ·have hn0:new=[]:=List.eq_nil_of_length_eq_zero (by rw[hnew,h0];simp)
   subst hn0
   refine⟨.sl0,H,n,[],.inl ⟨rfl,rfl,rfl⟩,s,fun o r hk=>?_⟩
   exact fB hx hm (ef:=(vf .sl0,[],0)) (by simp[df,h0]) hk
  ·have hbb:m*bytes*2≤140737488355328:=by simpa using hb
   refine⟨.sl n 0 sz m none,upd H n (some (.cells new false)),n+1,[(n,.cells new false)],.inr ⟨n,m,new,false,rfl,rfl,om,by rw[←hnew,List.take_length];rfl⟩,?_,fun o r hk=>?_⟩
   ·exact(s.newM (.cells new false)).perm i8.symm
   ·exact fB hx hm (ef:=(vf (.sl n 0 sz m none),[(n,some (.cells new false))],1)) (by simp[df,h0,hbb]) hk
 ·have s1:aa X H n ((k,.cells cs ex)::cat (A++[]::B)):=s.perm i8
  have hk1:H k=some (.cells cs ex):=s1.at 0 rfl
  have hmulb:(len+m)*bytes*2≤140737488355328:=by
   refine Nat.le_trans (Nat.mul_le_mul_right _ (Nat.mul_le_mul_right _ ?_)) hb
   have h1:len≤len*sz:=Nat.le_mul_of_pos_right _ hsz
   rw[List.length_take]
   omega
  have hadd:(len+m)*sz=len*sz+m*sz:=Nat.add_mul ..
  by_cases hr:(len+m)*sz≤cs.length
  ·refine⟨.sl k 0 sz (len+m) none,_,n,[(k,.cells (aJ cs (len*sz) new) ex)],.inr ⟨k,len+m,_,ex,rfl,rfl,?_,?_⟩,(s1.set 0 rfl _).perm i8.symm,fun o r hk=>?_⟩
   ·simp only[aJ,List.length_append,List.length_take,List.length_drop];omega
   ·exact(List.take_left' (l₁:=cs.take (len*sz)++new) (by rw[List.length_append,List.length_take];omega)).symm
   ·have:=fB (n:=n) hx hm (ef:=(vf (.sl k 0 sz (len+m) none),[(k,some (.cells (aJ cs (0+len*sz) new) ex))],0)) (bytes:=bytes) (s:=.sl k 0 sz len none) (by
     simp only[df,if_true,hk1]
     rw[if_pos om,if_pos hmulb,if_pos om]) hk
    rw[Nat.zero_add]at this
    exact this
  ·have hold:∀(H2:Heap),aa X H2 n (cat (A++[]::B))→aa X (upd H2 n (some (.cells (cs.take (len*sz)++new) false))) (n+1) (cat (A++[(n,.cells (cs.take (len*sz)++new) false)]::B)):=fun H2 s2=>(s2.newM _).perm i8.symm
   have hown:av sz (.sl n 0 sz (len+m) none) (cs.take (len*sz)++new) [(n,.cells (cs.take (len*sz)++new) false)]:=.inr ⟨n,len+m,_,false,rfl,rfl,by rw[List.length_append,List.length_take];omega,(List.take_of_length_le (l:=cs.take (len*sz)++new) (by rw[List.length_append,List.length_take];omega)).symm⟩
   cases ex with
   |true=>
    refine⟨.sl n 0 sz (len+m) none,_,n+1,_,hown,hold H (s1.del 0),fun o r hk=>?_⟩
    have:=fB (n:=n) hx hm (ef:=(vf (.sl n 0 sz (len+m) none),[(n,some (.cells ((cs.drop 0).take (len*sz)++new) false))],1)) (bytes:=bytes) (s:=.sl k 0 sz len none) (by
     simp only[df,if_true,hk1]
     rw[if_pos om,if_pos hmulb,if_neg om]) hk
    exact this
   |false=>
    have s2:aa X (upd H k none) n (cat (A++[]::B)):=s1.kill
    refine⟨.sl n 0 sz (len+m) none,_,n+1,_,hown,hold _ s2,fun o r hk=>?_⟩
    have:=fB (n:=n) hx hm (ef:=(vf (.sl n 0 sz (len+m) none),[(k,none),(n,some (.cells (cs.take (len*sz)++new) false))],1)) (bytes:=bytes) (s:=.sl k 0 sz len none) (by
     simp only[df,if_true,hk1]
     rw[if_pos om,if_pos hmulb,if_neg om]
     simp) hk
    exact this
noncomputable def eD(k:IntKind)(m:Nat)(v:V):Option Nat:=gE v (fun x=>p8 x (fun j i=>@Bool.rec (fun _=>Option Nat) none (@Int.rec (fun _=>Option Nat) (fun a=>@Bool.rec (fun _=>Option Nat) none (some a) (Nat.ble a m)) (fun _=>none) i) (jx j k)) none) none
theorem eH{k:IntKind}{m:Nat}{v:V}{a:Nat}(h:eD k m v=some a):v=vf (.int k (a:Int))∧a≤m:=by
 cases v with
 |tup l=>cases h
 |u u=>
  cases u with
  |agg l=>cases h
  |fn g l=>cases h
  |f x=>
   cases x<;>first
    |(cases h;done)
    |skip
   rename_i j i
   replace h:@Bool.rec (fun _=>Option Nat) none (@Int.rec (fun _=>Option Nat) (fun a=>@Bool.rec (fun _=>Option Nat) none (some a) (Nat.ble a m)) (fun _=>none) i) (jx j k)=some a:=h
   cases hk:jx j k with
   |false=>rw[hk]at h;cases h
   |true=>
    rw[hk]at h
    replace h:@Int.rec (fun _=>Option Nat) (fun a=>@Bool.rec (fun _=>Option Nat) none (some a) (Nat.ble a m)) (fun _=>none) i=some a:=h
    have hjk:=(eI j k).1 hk
    clear hk
    subst hjk
    cases i with
    |negSucc i=>cases h
    |ofNat i=>
     replace h:@Bool.rec (fun _=>Option Nat) none (some i) (Nat.ble i m)=some a:=h
     cases hb:Nat.ble i m with
     |false=>rw[hb]at h;cases h
     |true=>rw[hb]at h;cases h;exact⟨rfl,Nat.le_of_ble_eq_true hb⟩
noncomputable def tM:List F→Option (List Nat)
 |[]=>some []
 |x::r=>bC (eD .u8 255 (vf x)) fun a=>bC (tM r) fun l=>some (a::l)
theorem ml:∀{cs:List F} {l:List Nat},tM cs=some l→cs=bs l∧B8 l
 |[],l,h=>by cases h;exact⟨rfl,fun x hx=>(by cases hx)⟩
 |x::r,l,h=>by
  obtain⟨a,h1,h2⟩:=b9 h
  obtain⟨l',h3,h4⟩:=b9 h2
  cases h4
  obtain⟨e1,e2⟩:=ml h3
  obtain⟨g1,g2⟩:=eH h1
  cases g1
  refine⟨by rw[e1];rfl,fun y hy=>?_⟩
  rcases List.mem_cons.1 hy with rfl | hy
  ·omega
  ·exact e2 y hy
noncomputable def pP(H:T O)(x:F):Option (List Nat):=bC (aF H.get 1 x) tM
noncomputable def lH(l:List Nat):Option (List Nat):=@Bool.rec (fun _=>Option (List Nat)) none (some l) (Nat.ble l.length 140737488355328)
noncomputable def pm(H:T O):List F→Option (List (List Nat))
 |[]=>some []
 |x::r=>bC (pP H x) fun a=>bC (lH a) fun a=>bC (pm H r) fun l=>some (a::l)
theorem nN{l k:List Nat}(h:lH l=some k):k=l∧l.length≤140737488355328:=by
 unfold lH at h
 cases hb:Nat.ble l.length 140737488355328 with
 |false=>rw[hb]at h;cases h
 |true=>rw[hb]at h;cases h;exact⟨rfl,Nat.le_of_ble_eq_true hb⟩
theorem qM{H:T O}:∀{fs:List F} {rs:List (List Nat)},pm H fs=some rs→aw (aB H.get) fs rs
 |[],rs,h=>by cases h;trivial
 |x::r,rs,h=>by
  obtain⟨a,h1,h2⟩:=b9 h
  obtain⟨a',h3,h4⟩:=b9 h2
  obtain⟨l,h5,h6⟩:=b9 h4
  cases h6
  obtain⟨rfl,hl⟩:=nN h3
  obtain⟨cs,g1,g2⟩:=b9 h1
  obtain⟨rfl,g3⟩:=ml g2
  exact⟨⟨g1,g3,hl⟩,qM h5⟩
noncomputable def cv{α:Type}(b:Bool)(x y:α):α:=@Bool.rec (fun _=>α) y x b
theorem gH{α:Type}{f k:Nat}{x y:Option α}{r:α}(h:cv (Nat.beq f k) x y=some r):(f=k∧x=some r)∨y=some r:=by
 cases hb:Nat.beq f k with
 |true=>rw[hb]at h;exact .inl ⟨Nat.eq_of_beq_eq_true hb,h⟩
 |false=>rw[hb]at h;exact .inr h
noncomputable def jp{β:Type}(l:List V)(k:V→Option β):Option β:=@List.rec V (fun _=>Option β) none (fun x r _=>@List.rec V (fun _=>Option β) (k x) (fun _ _ _=>none) r) l
noncomputable def j7{β:Type}(l:List V)(k:V→V→Option β):Option β:=@List.rec V (fun _=>Option β) none (fun x r _=>jp r (k x)) l
noncomputable def z8{β:Type}(l:List V)(k:V→V→V→Option β):Option β:=@List.rec V (fun _=>Option β) none (fun x r _=>j7 r (k x)) l
theorem kO{β:Type}{l:List V}{k:V→Option β}{y:β}(h:jp l k=some y):∃x,l=[x]∧k x=some y:=by
 cases l with
 |nil=>cases h
 |cons a l=>cases l with
  |nil=>exact⟨a,rfl,h⟩
  |cons b l=>cases h
theorem mm{β:Type}{l:List V}{k:V→V→Option β}{y:β}(h:j7 l k=some y):∃x z,l=[x,z]∧k x z=some y:=by
 cases l with
 |nil=>cases h
 |cons a l=>obtain⟨z,rfl,h2⟩:=kO (show jp l (k a)=some y from h);exact⟨a,z,rfl,h2⟩
theorem D4{β:Type}{l:List V}{k:V→V→V→Option β}{y:β}(h:z8 l k=some y):∃x z w,l=[x,z,w]∧k x z w=some y:=by
 cases l with
 |nil=>cases h
 |cons a l=>obtain⟨z,w,rfl,h2⟩:=mm (show j7 l (k a)=some y from h);exact⟨a,z,w,rfl,h2⟩
theorem oF{α:Type}{v:V}{k:F→Option α}{y:α}(h:gE v k none=some y):∃x,v=vf x∧k x=some y:=by
 cases v with
 |tup l=>cases h
 |u u=>cases u with
  |f x=>exact⟨x,rfl,h⟩
  |agg l=>cases h
  |fn g l=>cases h
noncomputable def orc:bN:=fun f args H n=>
 cv (Nat.beq f 230) (j7 args fun x y=>bC (eD .u8 255 x) fun a=>bC (eD .u8 255 y) fun b=>some (vb (gm a b),H,n))<|
 cv (Nat.beq f 198) (jp args fun x=>gE x (fun x=>bC (pP H x) fun l=>bC (lH l) fun l=>cv (Nat.beq l.length 0) none (some (vb (iS 1 l),H,n))) none)<|
 cv (Nat.beq f 92) (jp args fun x=>gE x (fun x=>bC (pP H x) fun l=>bC (lH l) fun l=>cv (Nat.beq l.length 0) none (some (vb (iX 0 l),H,n))) none)<|
 cv (Nat.beq f 197) (j7 args fun x y=>bC (eD .u8 255 x) fun a=>bC (eD .i64 255 y) fun b=>some (vb (gC 8 a b 1),H,n))<|
 cv (Nat.beq f 140) (jp args fun x=>bC (eD .u8 255 x) fun a=>some (vb (iv a),H,n))<|
 cv (Nat.beq f 50) (jp args fun x=>bC (eD .u32 4294967295 x) fun a=>some (vw (stirN a),H,n))<|
 cv (Nat.beq f 30) (z8 args fun x y z=>bC (eD .u32 4294967295 x) fun a=>bC (eD .u32 4294967295 y) fun b=>bC (eD .i64 4294967295 z) fun m=>cv (Nat.beq m 0) none (some (vi (fS a b m),H,n))) none
theorem sI{H:Heap}{x:F}{l:List Nat}(h:aF H 1 x=some (bs l)):x=.sl0∧l=[]∨∃id off len cap,x=.sl id off 1 len cap:=by
 cases x with
 |sl0=>
  left
  simp only[aF,Option.some.injEq]at h
  cases l with
  |nil=>exact⟨rfl,rfl⟩
  |cons a b=>simp[bs]at h
 |sl id off sz len cap=>obtain⟨rfl,_⟩:=dG h;exact .inr ⟨id,off,len,cap,rfl⟩
 |_=>simp[aF]at h
theorem kG{α:Type}{m:Nat}{y:Option α}{r:α}(h:cv (Nat.beq m 0) none y=some r):m≠0∧y=some r:=by
 cases hb:Nat.beq m 0 with
 |true=>rw[hb]at h;cases h
 |false=>rw[hb]at h;exact⟨Nat.ne_of_beq_eq_false hb,h⟩
theorem Gl:bN.Ok Tryz.prog orc:=by
 intro f args H n v H' n' ht h
 unfold orc at h
 rcases gH h with⟨rfl,h⟩ | h
 ·obtain⟨x,y,rfl,h⟩:=mm h
  obtain⟨a,h1,h⟩:=b9 h
  obtain⟨b,h2,h⟩:=b9 h
  cases h
  obtain⟨rfl,g1⟩:=eH h1
  obtain⟨rfl,g2⟩:=eH h2
  exact mj a b om om _ _
 rcases gH h with⟨rfl,h⟩ | h
 ·obtain⟨x,rfl,h⟩:=kO h
  obtain⟨x,rfl,h⟩:=oF h
  obtain⟨l,h1,h⟩:=b9 h
  obtain⟨l',h2,h⟩:=b9 h
  obtain⟨h3,h⟩:=kG h
  cases h
  obtain⟨rfl,hl⟩:=nN h2
  obtain⟨cs,g1,g2⟩:=b9 h1
  obtain⟨rfl,g3⟩:=ml g2
  rcases sI g1 with⟨rfl,rfl⟩|⟨id,off,len,cap,rfl⟩
  ·exact absurd rfl h3
  ·exact xY _ _ g1 g3 om
 rcases gH h with⟨rfl,h⟩ | h
 ·obtain⟨x,rfl,h⟩:=kO h
  obtain⟨x,rfl,h⟩:=oF h
  obtain⟨l,h1,h⟩:=b9 h
  obtain⟨l',h2,h⟩:=b9 h
  obtain⟨h3,h⟩:=kG h
  cases h
  obtain⟨rfl,hl⟩:=nN h2
  obtain⟨cs,g1,g2⟩:=b9 h1
  obtain⟨rfl,g3⟩:=ml g2
  rcases sI g1 with⟨rfl,rfl⟩|⟨id,off,len,cap,rfl⟩
  ·exact absurd rfl h3
  ·exact yc _ _ g1 g3 om
 rcases gH h with⟨rfl,h⟩ | h
 ·obtain⟨x,y,rfl,h⟩:=mm h
  obtain⟨a,h1,h⟩:=b9 h
  obtain⟨b,h2,h⟩:=b9 h
  cases h
  obtain⟨rfl,g1⟩:=eH h1
  obtain⟨rfl,g2⟩:=eH h2
  exact v_ a b om om _ _
 rcases gH h with⟨rfl,h⟩ | h
 ·obtain⟨x,rfl,h⟩:=kO h
  obtain⟨a,h1,h⟩:=b9 h
  cases h
  obtain⟨rfl,g1⟩:=eH h1
  exact yl a om _ _
 rcases gH h with⟨rfl,h⟩ | h
 ·obtain⟨x,rfl,h⟩:=kO h
  obtain⟨a,h1,h⟩:=b9 h
  cases h
  obtain⟨rfl,g1⟩:=eH h1
  exact ow a om _ _
 rcases gH h with⟨rfl,h⟩ | h
 ·obtain⟨x,y,z,rfl,h⟩:=D4 h
  obtain⟨a,h1,h⟩:=b9 h
  obtain⟨b,h2,h⟩:=b9 h
  obtain⟨m,h3,h⟩:=b9 h
  obtain⟨h4,h⟩:=kG h
  cases h
  obtain⟨rfl,g1⟩:=eH h1
  obtain⟨rfl,g2⟩:=eH h2
  obtain⟨rfl,g3⟩:=eH h3
  exact xm a b m om om om om _ _
 ·cases h
/-- and of rows -/
noncomputable def nu:bN:=fun f args H n=>
 cv (Nat.beq f 65) (j7 args fun x y=>bC (eD .i64 1000 x) fun N=>gE y (fun y=>bC (aF H.get 1 y) fun fs=>bC (pm H fs) fun rs=>cv (Nat.beq (Nat.sub 1000000000 (Nat.add n rs.length)) 0) none (some (vf (.sl n 0 1 N none),H.set n (some (.cells (bs (cE N rs)) true)),Nat.add n (Nat.succ (Nat.mul rs.length N))))) none)<|
 cv (Nat.beq f 141) (j7 args fun x y=>bC (eD .u8 255 x) fun c=>gE y (fun y=>bC (pP H y) fun l=>bC (lH l) fun l=>cv (Nat.beq l.length 0) none (cv (Nat.beq (Nat.sub 1000000000 n) 0) none (some (vf (.sl n 0 1 l.length none),H.set n (some (.cells (bs (l.map (gm c))) true)),Nat.add n (Nat.succ l.length))))) none)<|
 orc f args H n
theorem rU{H:T O}{n:Nat}{ob:O}(h:n<1000000000):(H.set n (some ob)).get=upd H.get n (some ob):=by
 funext j
 rw[T.get_set _ _ _ om]
 rfl
theorem oT:bN.Ok Tryz.prog nu:=by
 intro f args H n v H' n' ht h
 unfold nu at h
 rcases gH h with⟨rfl,h⟩ | h
 ·obtain⟨x,y,rfl,h⟩:=mm h
  obtain⟨N,h1,h⟩:=b9 h
  obtain⟨y,rfl,h⟩:=oF h
  obtain⟨fs,h2,h⟩:=b9 h
  obtain⟨rs,h3,h⟩:=b9 h
  obtain⟨h4,h⟩:=kG h
  cases h
  obtain⟨rfl,g1⟩:=eH h1
  have h4:1000000000-(n+rs.length)≠0:=h4
  rw[rU om]
  have:=xT (n:=n) (N:=N) rs ⟨fs,h2,qM h3⟩ g1 om ht
  rw[show n+1+rs.length*N=n+(rs.length*N+1)by omega]at this
  exact this
 rcases gH h with⟨rfl,h⟩ | h
 ·obtain⟨x,y,rfl,h⟩:=mm h
  obtain⟨c,h1,h⟩:=b9 h
  obtain⟨y,rfl,h⟩:=oF h
  obtain⟨l,h2,h⟩:=b9 h
  obtain⟨l',h3,h⟩:=b9 h
  obtain⟨h4,h⟩:=kG h
  obtain⟨h5,h⟩:=kG h
  cases h
  obtain⟨rfl,g1⟩:=eH h1
  obtain⟨rfl,hl⟩:=nN h3
  obtain⟨cs,k1,k2⟩:=b9 h2
  obtain⟨rfl,k3⟩:=ml k2
  have h5:1000000000-n≠0:=h5
  rw[rU om]
  rcases sI k1 with⟨rfl,rfl⟩|⟨id,off,len,cap,rfl⟩
  ·exact absurd rfl h4
  ·have:=wB (n:=n) (c:=c) _ k1 k3 om hl ht
   rw[Nat.add_assoc,Nat.add_comm 1]at this
   exact this
 ·exact Gl _ _ _ _ _ _ _ ht h
end Go.Proofs.YtkimkgbppegkhaaGreat.Cm
