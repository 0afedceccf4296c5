/- The clean machine's walk of slices.Insert of one record. · The clean machine's walks of stores (6): a record inserted, a record put. · The clean machine's walks of stores (7): records put. · The clean machine's walks of peers (1): what a peer is; what it keeps and delivers. -/
import Derived.Test.YtkimkgbppegkhaaGreatIw
set_option linter.unusedVariables false
set_option linter.unusedSimpArgs false
namespace Go.Proofs.YtkimkgbppegkhaaGreat.Cm
open Go Go.RowKit Go.Proofs.YtkimkgbppegkhaaGreat.Gf
theorem fZ.trans{w w1 w2:World}{b:Nat}(h:fZ w b w1)(g:fZ w1 b w2):fZ w b w2:=⟨g.os.trans h.os,g.tape.trans h.tape,g.output.trans h.output,g.size.trans h.size,fun k hk=>(g.block k hk).trans (h.block k hk)⟩
theorem fZ.draw{w w1:World}{b:Nat}(h:fZ w.drew b w1):fZ w b w1:=⟨h.os,h.tape,h.output,h.size,h.block⟩
theorem gv.wr{w w1 w2:World}{ob ob2:Obj}(h:gv w ob w1)(g:fZ w1 w.heap.size w2)(hb:w2.heap[w.heap.size]?=some ob2):gv w ob2 w2:=⟨g.os.trans h.os,g.tape.trans h.tape,g.output.trans h.output,by
 apply Array.ext_getElem?
 intro k
 rcases Nat.lt_trichotomy k w.heap.size with hk | hk | hk
 ·rw[g.block k om,h.old hk,Array.getElem?_push_lt hk,Array.getElem?_eq_getElem hk]
 ·subst hk;rw[hb];simp
 ·rw[Array.getElem?_eq_none (by rw[g.size,h.heap,Array.size_push];omega),Array.getElem?_eq_none (by rw[Array.size_push];omega)]⟩
theorem EP{H:Heap}{k n:Nat}{a b:Option O}(h:k≠n):upd (upd H k a) n b=upd (upd H n b) k a:=by
 funext j
 unfold upd
 by_cases a1:j=k
 ·subst a1;simp[h]
 ·simp[a1]
theorem EA{α:Type}(R:List α)(V:List α){i len:Nat}(hV:V.length=10)(hi:i<len)(hR:len*10≤R.length):
 let R1:=R.take ((i+1)*10)++(R.take (len*10)).drop (i*10)++R.drop ((i+1)*10+((R.take (len*10)).drop (i*10)).length)
 (R1.take (i*10)++V++R1.drop (i*10+V.length)).take ((len+1)*10)=R.take (i*10)++V++(R.take (len*10)).drop (i*10):=by
 intro R1
 have e1:R1.take (i*10)=R.take (i*10):=by
  show List.take (i*10) (R.take ((i+1)*10)++_++_)=_
  rw[List.append_assoc,List.take_append_of_le_length (by simp;omega),List.take_take,Nat.min_eq_left om]
 have e2:R1.drop (i*10+V.length)=(R.take (len*10)).drop (i*10)++R.drop ((i+1)*10+((R.take (len*10)).drop (i*10)).length):=by
  show List.drop _ (R.take ((i+1)*10)++_++_)=_
  rw[List.append_assoc,hV,List.drop_append_of_le_length (by simp;omega),List.drop_eq_nil_of_le (by simp;omega),List.nil_append]
 rw[e1,e2,←List.append_assoc]
 have hl:(R.take (i*10)++V++(R.take (len*10)).drop (i*10)).length=(len+1)*10:=by simp;omega
 rw[←hl,List.take_left]
theorem DJ{α:Type}(R Z:List α)(V:List α){i len:Nat}(hV:V.length=10)(hi:i<len)(hR:R.length=len*10):
 let R0:=R.take (i*10)++Z
 let R1:=R0.take (i*10)++V++R0.drop (i*10+V.length)
 (R1.take ((i+1)*10)++R.drop (i*10)++R1.drop ((i+1)*10+(R.drop (i*10)).length))=(R.take (i*10)++V++R.drop (i*10))++R1.drop ((len+1)*10):=by
 intro R0 R1
 have e0:R0.take (i*10)=R.take (i*10):=by
  show List.take _ (_++_)=_
  rw[List.take_append_of_le_length (by simp;omega),List.take_take,Nat.min_self]
 have e1:R1.take ((i+1)*10)=R.take (i*10)++V:=by
  show List.take _ (_++_++_)=_
  have hl:(R0.take (i*10)++V).length=(i+1)*10:=by simp[e0,hV];omega
  rw[←hl,List.take_left,e0]
 have e2:(i+1)*10+(R.drop (i*10)).length=(len+1)*10:=by simp;omega
 rw[e1,e2]
theorem AQ{H:Heap}{n k vid i len:Nat}{cs new:List F}{ex:Bool}(hk:H k=some (.cells cs ex))(hv:H vid=some (.cells new true))(hkv:k≠vid)(hnew:new.length=10)(hlen:len*10≤cs.length)(hi:i<len)(hb:len≤100000)(hkn:k≠n):
 aS Tryz.prog 243 [vf (.sl k 0 10 len none),vi i,vf (.sl vid 0 10 1 none)] H n (vf (.sl n 0 10 (len+1) none)) (upd (upd H k none) n (some (.cells (cs.take (i*10)++new++(cs.take (len*10)).drop (i*10)) false))) (n+1):=by
 refine⟨⟨om,fun j hj=>?_⟩,fun ε w rargs R hf ha=>?_⟩
 ·by_cases e:j=n
  ·exact .inr om
  ·rw[br _ _ e]at hj
   by_cases e2:j=k
   ·subst e2;rw[bG]at hj;exact absurd rfl hj
   ·rw[br _ _ e2]at hj;exact .inl hj
 match rargs,ha with
 |[r0,r1,r2],ha=>
 obtain⟨a0,a1,a2,_⟩:=ha
 obtain⟨b,K,ad,c,he,rfl,had,hlc,hK⟩:=(show aT ε (.sl k 0 10 len none) r0 from a0)
 have a1:r1=.int .i64 (i:Int):=a1
 obtain⟨vb,K2,ad2,c2,he2,rfl,had2,hlc2,hK2⟩:=(show aT ε (.sl vid 0 10 1 none) r2 from a2)
 subst a1
 simp only[Nat.zero_add]at hK hK2
 have had:=had om
 have had2:=had2 om
 subst had had2
 obtain⟨b',K',rcs,elem,fz,h1,h2,h3,h4,h5,h6⟩:=R.obj k _ hk
 rw[he]at h1;cases h1
 obtain⟨vb',K2',vcs,velem,vfz,g1,g2,g3,g4,g5,g6⟩:=R.obj vid _ hv
 rw[he2]at g1;cases g1
 have gK:=g5 rfl
 have gf:vfz.1=vfz.2:=g6.elim id fun h=>by cases h.1
 have hne:b≠vb:=fun e=>hkv (R.inj k vid b K K2 (by simp[hk]) (by simp[hv]) he (by rw[e];exact he2))
 have hcl:=i9 h4
 have hvz:vcs.toList.length=10:=by simp;omega
 have q4:aw (aT ε) (cs.take (len*10)) (rcs.toList.take (len*10)):=by
  have:=h4.take (len*10)
  rwa [List.take_take,Nat.min_eq_left hlen]at this
 have v4:aw (aT ε) new vcs.toList:=by
  rw[List.take_of_length_le om]at g4
  exact g4
 have o1:=oC q4
 have o2:=oC v4
 have hfr:fz.1=fz.2∨rcs.size≤fz.1:=h6.imp id fun h=>by rw[h3];exact h.2
 have hfr2:∀r:Array Value,r.size=rcs.size→(fz.1=fz.2∨r.size≤fz.1):=fun r h=>by rw[h];exact hfr
 have hnn:ε n=none:=hf n om om
 have hle:=le_ins hnn
 obtain⟨L,hL⟩:∃L,rcs.toList.take (len*10)=L:=⟨_,rfl⟩
 rw[hL]at q4 o1
 have hLl:L.length=len*10:=by rw[←hL];simp;omega
 have hLi:L.take (i*10)=rcs.toList.take (i*10):=by rw[←hL,List.take_take,Nat.min_eq_left om]
 have hrel0:aw (aT ε) (cs.take (i*10)++new++(cs.take (len*10)).drop (i*10)) (L.take (i*10)++vcs.toList++L.drop (i*10)):=by
  have t1:=q4.take (i*10)
  rw[List.take_take,Nat.min_eq_left om]at t1
  exact(t1.append v4).append (q4.drop (i*10))
 have hrel:∀p,aw (aT (fG ε n p)) (cs.take (i*10)++new++(cs.take (len*10)).drop (i*10)) (L.take (i*10)++vcs.toList++L.drop (i*10)):=fun p=>hrel0.mono fun _ _ k=>aT.mono (hle p) k
 have hrl:(cs.take (i*10)++new++(cs.take (len*10)).drop (i*10)).length=(len+1)*10:=by simp;omega
 have hcL:∀j v,L[j]?=some v→rcs[j]?=some v:=fun j v hj=>by
  rw[←hL,List.getElem?_take]at hj
  split at hj
  ·simpa using hj
  ·cases hj
 have hsa:w.shape? vb=some (velem,vcs.size):=by simp[World.shape?,g2]
 have hsb:w.shape? b=some (elem,rcs.size):=by simp[World.shape?,h2]
 have hvf:∀o,w.frozen? ⟨vb,o,none⟩=false:=fun o=>by
  obtain⟨lo,hi2⟩:=vfz
  simp only at gf
  subst gf
  simp[World.frozen?,g2]
 rcases Nat.lt_or_ge len c with hroom | hroom
 ·
  obtain⟨w1,s1,wr1,hb1⟩:=jD (P:=Tryz.prog) ((i+1)*10) (L.drop (i*10)) 0 rcs w.drew h2 hfr (by simp;omega) (fun v h=>o1 v (List.mem_of_mem_drop h))
  obtain⟨w2,s2,wr2,hb2⟩:=jD (P:=Tryz.prog) (i*10) vcs.toList 0 _ w1 hb1 (hfr2 _ (by simp;omega)) (by simp;omega) o2
  have hg2:w1.heap[vb]?=some (.cells vcs velem vfz):=by rw[wr1.block vb (Ne.symm hne)];exact g2
  have hcall:=Ej b len c i vb c2 L vcs.toList w w1 w2 hi om hb (Ne.symm hne) hLl om
   (fun j v hj=>by rw[gN h2];exact hcL j v hj) (fun j v hj=>by rw[gN hg2];simpa using hj) s1 s2 velem elem vcs.size rcs.size hsa hsb om (hvf _) (hvf _)
  refine Calls.mono hcall fun x w' hp=>?_
  obtain⟨rfl,rfl⟩:=hp
  refine⟨_,fG ε n (b,K),rfl,⟨b,K,_,c,cJ _ _ _,rfl,fun _=>rfl,om,by simp only;omega⟩,?_⟩
  refine up R hnn (by simp[hk]) he (wr1.draw.trans wr2) ⟨b,K,_,elem,fz,cJ _ _ _,hb2,?_,?_,fun h=>(by cases h),h6.imp id fun h=>⟨rfl,h.2⟩⟩
  ·simp;omega
  ·rw[hrl]
   simp only[Nat.add_zero]
   have:=EA rcs.toList vcs.toList hvz hi (by simp;omega)
   rw[hL]at this
   simp only at this
   rw[this,←hLi]
   exact hrel _
 ·have hcc:c=len:=by omega
  subst hcc
  obtain⟨ie,h7,hsz,hby,z,hz40,hzl⟩:=HG
  obtain⟨G,hG⟩:∃G,grownCap w (c+1) c 40=G:=⟨_,rfl⟩
  have hGn:c+1≤G:=by rw[←hG];exact grownCap_ge w _ _ _
  obtain⟨Z,hZ⟩:∃Z,Builtin.zeroCells z.cells (c+1-i)++Builtin.zeroCells z.cells (G-(c+1))=Z:=⟨_,rfl⟩
  have hzc:∀m,(Builtin.zeroCells z.cells m).toList.length=m*10:=fun m=>by simp[Builtin.zeroCells,hzl]
  have hZl:Z.toList.length=(c+1-i)*10+(G-(c+1))*10:=by rw[←hZ,Array.toList_append,List.length_append,hzc,hzc]
  obtain⟨ROW,hROW⟩:∃ROW,(L.take (i*10)).toArray++Builtin.zeroCells z.cells (c+1-i)++Builtin.zeroCells z.cells (G-(c+1))=ROW:=⟨_,rfl⟩
  have hRl:ROW.toList=L.take (i*10)++Z.toList:=by rw[←hROW,←hZ];simp
  have hRs:ROW.size=G*10:=by rw[←Array.length_toList,hRl,List.length_append,hZl];simp;omega
  have hN:gv w (.cells ROW 40 (0,0)) (w.alloc (.cells ROW 40)).drew:=⟨rfl,rfl,rfl,rfl⟩
  obtain⟨W2,s2,wr2,hb2⟩:=jD (P:=Tryz.prog) (i*10) vcs.toList 0 ROW _ hN.new (.inl rfl) (by simp;omega) o2
  obtain⟨W3,s3,wr3,hb3⟩:=jD (P:=Tryz.prog) ((i+1)*10) (L.drop (i*10)) 0 _ W2.drew hb2 (.inl rfl) (by simp;omega) (fun v h=>o1 v (List.mem_of_mem_drop h))
  have hbw:b<w.heap.size:=R.lt (by simp[hk]) he
  have hvw:vb<w.heap.size:=R.lt (by simp[hv]) he2
  have hh2:W2.heap[b]?=some (.cells rcs elem fz):=by rw[wr2.block b om,hN.old hbw];exact h2
  have hcall:=Fh b c i vb c2 L vcs.toList w W2 W3 ie z h7 hz40 hsz hby hi hb hvw hbw hLl om
   (fun j v hj=>by rw[gN h2];exact hcL j v hj) (fun j v hj=>by rw[gN hh2];exact hcL j v hj) (fun j v hj=>by rw[gN g2];simpa using hj) G ROW hG hROW s2 s3
  refine Calls.mono hcall fun x w' hp=>?_
  obtain⟨rfl,rfl⟩:=hp
  have hW:=(hN.wr (wr2.trans wr3.draw) hb3)
  have hlist:=DJ L Z.toList vcs.toList hvz hi hLl
  simp only at hlist
  rw[←hRl]at hlist
  simp only[Nat.add_zero]at hW
  rw[hlist]at hW
  have hrs:(L.take (i*10)++vcs.toList++L.drop (i*10)).length=(c+1)*10:=by simp;omega
  have hsz3:((L.take (i*10)++vcs.toList++L.drop (i*10))++List.drop ((c+1)*10) (List.take (i*10) ROW.toList++vcs.toList++List.drop (i*10+vcs.toList.length) ROW.toList)).length=G*10:=by
   rw[List.length_append,hrs];simp;omega
  rw[List.length_append]at hsz3
  have S:=jI R hnn hrel0 false _ (fun h=>by cases h) 40 (0,0) (.inl rfl) hW
  rw[hsz3]at S
  exact⟨_,fG ε n (w.heap.size,G*10),rfl,⟨w.heap.size,G*10,_,G,cJ _ _ _,rfl,fun _=>rfl,om,by show 0+G*10=_;omega⟩,by rw[EP hkn];exact we S k (by simp[he])⟩
set_option maxRecDepth 1000000
theorem Dw{X:Heap}{n:Nat}{a:F}{fs new:List F}{P0:List (Nat×O)}{vid i len:Nat}(ho:av 10 a fs P0)(hl:fs.length=len*10)(hv:X vid=some (.cells new true))(hnew:new.length=10)(hi:i<len)(hb:len≤100000):
 al 243 [vf a,vi i,vf (.sl vid 0 10 1 none)] X n P0 fun v _ P'=>∃b,v=vf b∧av 10 b (fs.take (i*10)++new++fs.drop (i*10)) P':=fun A B H s=>by
 rcases ho with⟨rfl,rfl,rfl⟩|⟨k,m,cs,ex,rfl,rfl,hm,rfl⟩
 ·simp at hl;omega
 have e:m=len:=by simp at hl;omega
 subst e
 have s1:aa X H n ((k,.cells cs ex)::cat (A++[]::B)):=s.perm i8
 have hk:=s1.at 0 rfl
 have hkX:=(s1.own (k,.cells cs ex) sm).2
 have hkv:k≠vid:=fun e=>by simp only at hkX;rw[e,hv]at hkX;cases hkX
 have hc:=AQ (n:=n) hk (s.mono _ _ hv) hkv hnew hm hi hb (Nat.ne_of_lt (s1.lt 0 rfl))
 refine⟨_,X,_,n+1,[(n,_)],hc,ab.rfl,((s1.kill).newM _).perm i8.symm,_,rfl,.inr ⟨n,m+1,_,false,rfl,rfl,by simp;omega,?_⟩⟩
 have e:(cs.take (m*10)).take (i*10)=cs.take (i*10):=by rw[List.take_take,Nat.min_eq_left om]
 rw[e]
 exact(List.take_of_length_le (by simp;omega)).symm
theorem Gi{X H:Heap}{n sz len:Nat}{f:F}{fs:List F}{M:List (Nat×O)}(A B:List (List (Nat×O)))(ho:av sz f fs M)(s:aa X H n (cat (A++M::B)))(hsz:0<sz)(hl:fs.length=len*sz):∃z,∀(o:Oper) (r:Operand→Option V) (_:ko Tryz.prog o r=some (f,sz,some len,none):=by kernel_rfl),aE Tryz.prog o r H n (vf z) H n:=by
 rcases ho with⟨rfl,rfl,rfl⟩|⟨k,len2,cs,ex,rfl,rfl,h1,rfl⟩
 ·have h0:0=len*sz:=hl
  rcases Nat.mul_eq_zero.1 h0.symm with h | h
  ·subst h;exact⟨.sl0,fun o r hk=>r7 rfl rfl hk⟩
  ·omega
 ·rw[List.length_take,Nat.min_eq_left h1]at hl
  have:len2=len:=Nat.eq_of_mul_eq_mul_right hsz hl
  subst this
  have hk1:=(s.own (k,.cells cs ex) (by rw[bT];simp[cat])).1
  simp only at hk1
  exact⟨_,fun o r hk=>c7 (H:=H) (n:=n) (L:=cs.length) (l:=len2) (h:=len2) (by rw[hk1];rfl) rfl rfl om om (fun c h=>by cases h) hsz hk⟩
theorem Co{X:Heap}{n:Nat}{a:F}{fs new:List F}{P0:List (Nat×O)}{vid len:Nat}(ho:av 10 a fs P0)(hl:fs.length=len*10)(hv:X vid=some (.cells new true))(hnew:new.length=10)(hb:len≤100000):al 243 [vf (a),vi len,vf (.sl (vid) (0) 10 (1) none)] X n (P0) fun v _ P'=>∃b,v=vf b∧av 10 b (fs++new) P':=by
 refine al.of_to1 kr fun R H0 s0=>?_
 have hm0:ab X X:=ab.rfl
 obtain⟨zz,hzz⟩:=Gi [_] [_] ho s0 om hl
 refine ah 1 (ai 2 (ov 12 (hzz _ _ kr) (aj (ai 1 (ov 14 (ln 1) (ae 1 (aP 1 (ov 16 (eF 1 0) (aj (ar (nx (ai 1 (ov 19 (lv len (ho.lenA om hl)) (ae 1 (aP 2 (ov 22 (eT len len) (aj (iT (ai 2 ?_)))))))))))))))))))
 obtain⟨_,_,_,_,ho475,s,J⟩:=b6 (sz:=10) (bytes:=96) (x:=.sl (vid) (0) 10 (1) none) (new:=new) [_] [_] s0 (ho) (bf (s0.mono _ _ hv) om) (rfl) om om
 refine ov 25 (J _ _) (ax 1 ?_)
 exact⟨.inr rfl,_,kr,X,_,aa.fin1 s,hm0,_,rfl,ho475⟩
theorem BG{X:Heap}{n:Nat}{a:F}{fs new:List F}{P0:List (Nat×O)}{vid i len:Nat}(ho:av 10 a fs P0)(hl:fs.length=len*10)(hv:X vid=some (.cells new true))(hnew:new.length=10)(hi:i≤len)(hb:len≤100000):
 al 243 [vf a,vi i,vf (.sl vid 0 10 1 none)] X n P0 fun v _ P'=>∃b,v=vf b∧av 10 b (fs.take (i*10)++new++fs.drop (i*10)) P':=by
 rcases Nat.lt_or_ge i len with h | h
 ·exact Dw ho hl hv hnew h hb
 ·have e:i=len:=by omega
  subst e
  rw[List.take_of_length_le om,List.drop_eq_nil_of_le om,List.append_nil]
  exact Co ho hl hv hnew hb
theorem E'{α:Type}(l:List α)(i:Nat)(a:α):((l.take i++[a])++l.drop i).Perm (a::l):=by
 have h:((l.take i++[a])++l.drop i).Perm ([a]++(l.take i++l.drop i)):=by rw[←List.append_assoc];exact List.Perm.append_right _ List.perm_append_comm
 rwa [List.take_append_drop]at h
theorem BJ{X:Heap}{n:Nat}{sid:Nat}{st:bi}{P0:List (Nat×O)}(hst:bZ X sid st P0){ip ik u B N M bl e:Nat}{g:F}{d:List Nat}(hd:aV X (.sy ip ik u B N M bl e d) [iN ip,iN ik,iN B,iN N,iN M,iN bl,iN e,.bool false,iN u,g])(hdn:0<d.length∧d.length<1000)(hgu:bK st.gone ip ik=none)(hno:∀x∈st.sy,bA x≠bA (.sy ip ik u B N M bl e d))(hlt:st.sy.length<500):al 217 [vf (.ptr (sid) (0)),.u (.agg [iN ip,iN ik,iN B,iN N,iN M,iN bl,iN e,.bool false,iN u,g])] X n (P0) fun v X' P'=>v=.tup [.agg [iN ip,iN ik,iN B,iN N,iN M,iN bl,iN e,.bool false,iN u,g],.f (.bool true),.f (.int .i64 0)]∧∃sy,sy.Perm ((.sy ip ik u B N M bl e d)::st.sy)∧bZ X' sid {st with sy:=sy} P':=by
 obtain⟨b,sure,syf,mid,log,fs,pb,ps,rfl,hb,hlg,hs,hc⟩:=hst
 refine al.of_to (Ps:=[[(sid,.cells [b,iN sure,iN 500,syf,.map (mid)] true),(mid,.mp (c8 st.gone))],pb,ps]) kr fun R H0 s0=>?_
 have hm0:ab X X:=ab.rfl
 have hj:=og st.gone ip ik 0 hgu
 refine ag ?_
 obtain⟨_,s,J⟩:=ay s0 (.cells [iN ip,iN ik,iN B,iN N,iN M,iN bl,iN e,.bool false,iN u,g] true)
 refine ov 3 (J _ _ (vf (.ptr (n) (0)))) ?_
 obtain⟨_,s1,J⟩:=ay s (.cells [.int .i64 0,.int .i64 0,.int .i64 0,.int .i64 0,.int .i64 0,.int .i64 0,.int .i64 0,.bool false,.int .i64 0,.sl0] true)
 refine ov 4 (J _ _ (vf (.ptr (n+1) (0)))) (ae 2 (sq (sq (dw [0,1,2,3,4,5,6,7,8,9,10,11] (sg [0,1,2] (sr (some 20) (sid) trivial (am (off:=4) (s1.at 2 rfl) rfl) (sg [4] (sr (some 22) (n) trivial (aG (off:=0) (sz:=2) (c:=[iN ip,iN ik]) (s1.at 1 rfl) sm rfl) (sr (some 23) (mid) trivial (tE (z:=.f (iN 0)) (s1.at 3 rfl) hj) (sg [7,8,9,10,11] (sx (nx (ah 1 (ar (nx (sq (sq (dw [0,1,2,3,4,5,6,7,8,9,10] (sg [0,1,2] (sr (some 32) (sid) trivial (am (off:=3) (s1.at 2 rfl) rfl) (sr (some 33) (n) trivial (aG (off:=0) (sz:=10) (c:=[iN ip,iN ik,iN B,iN N,iN M,iN bl,iN e,.bool false,iN u,g]) (s1.at 1 rfl) sm rfl) ?_)))))))))))))))))))))
 obtain⟨_,_,_,_,ps,m,s2,J,⟨rfl,i,hi,rfl⟩⟩:=(uJ (r:=(.sy ip ik u B N M bl e d)) hs hc hd hno om).on [_,_] [_] s1
 have hc:=hc.mono fun _ _ q=>q.mono _ _ _ _ m
 refine sf (some 34) (J _ _) (oR kr) ?_
 have s3:=aa.outAt [_,_,_] [] s2
 have s4:=aa.outAt [_,_] [] s3
 have s5:=aa.pck [_] [_] [_,_,_,_] s4
 refine sg [6,7,8,9,10] (sx (nx (ah 1 (ar (nx (aP 1 (ov 66 (la 0 10 [iN ip,iN ik,iN B,iN N,iN M,iN bl,iN e,.bool false,iN u,g] (s5.at 1 rfl)) ?_)))))))
 obtain⟨_,_,_,_,Q2,m1,s6,J,⟨rfl,rfl⟩⟩:=(Df (st:=st) (P0:=cat [[(sid,.cells [b,iN sure,iN 500,syf,.map (mid)] true)],[(mid,.mp (c8 st.gone))],pb,ps]) ⟨_,_,_,_,_,_,_,_,rfl,hb,hlg,hs,hc⟩ (c:=[iN ip,iN ik,iN B,iN N,iN M,iN bl,iN e,.bool false,iN u,g]) (by rfl) hlt).on [_] [_] s5
 have hc:=hc.mono fun _ _ q=>q.mono _ _ _ _ m1
 have hd:=hd.mono _ _ _ _ (m.tr m1)
 refine ov 67 (J _ _) ?_
 have s7:=aa.unp [_] [_] [_,_,_,_] s6
 have s8:=aa.inn [_] [_,_,_] s7
 have s9:=aa.inn [] [_,_,_] s8
 refine ae 1 (ai 1 (ov 69 (uF 0 0) (aj (ar (nx (sq (dw [0,1,2,3,4,5,6,7,8,9,10] (sg [0,1,2] (sr (some 76) (sid) trivial (am (off:=3) (s9.at 0 rfl) rfl) (sr (some 77) (n) trivial (aG (off:=0) (sz:=10) (c:=[iN ip,iN ik,iN B,iN N,iN M,iN bl,iN e,.bool false,iN u,g]) (s9.at 3 rfl) sm rfl) ?_))))))))))
 obtain⟨_,_,_,_,ps,m2,s10,J,⟨rfl,i,hi,rfl⟩⟩:=(uJ (r:=(.sy ip ik u B N M bl e d)) hs hc hd hno om).on [_,_] [_] s9
 have hd:=hd.mono _ _ _ _ m2
 refine sf (some 78) (J _ _) (oR kr) (sg [6,7,8,9,10] (sx (nx (sq (dw [6,7,1,2,3,4,5,8,9,0,10,11,12] (sr (some 87) (n) trivial (aG (off:=0) (sz:=10) (c:=[iN ip,iN ik,iN B,iN N,iN M,iN bl,iN e,.bool false,iN u,g]) (s10.at 3 rfl) sm rfl) ?_))))))
 obtain⟨_,_,_,n1,m3,s11,J,⟨g2,rfl,hg2⟩⟩:=(uK (ip:=ip) (ik:=ik) (u:=u) (B:=B) (N:=N) (M:=M) (b:=bl) (e:=e) (show aB _ g d from by obtain⟨g0,e0,h0⟩:=hd;cases e0;exact h0) hdn.1 om s10.topX).on s10
 refine sf (some 88) (J _ _) (oR kr) (sg [1,2,3] (sr (some 85) (sid) ⟨ke (s10.at 0 rfl) (s11.at 0 rfl),trivial⟩ (am (off:=3) (s11.at 0 rfl) rfl) (sg [5] ?_)))
 obtain⟨_,_,s12,m4,f1,J⟩:=bj s11 (.cells [iN ip,iN ik,iN B,iN N,iN M,iN bl,iN e,.bool false,iN u,g2] true)
 have hc:=hc.mono fun _ _ q=>q.mono _ _ _ _ (m2.tr (m3.tr m4))
 refine sf (some 89) (J _ _ (vf (.sl (n1) (0) 10 (1) none))) ⟨ke (s11.at 0 rfl) (s12.at 0 rfl),ki,trivial⟩ ?_
 have hnx:=f1
 obtain⟨_,W,_,_,ps2,m5,s13,J,⟨b2,rfl,hs2⟩⟩:=(BG hs (hc.len) hnx rfl hi om).on [_,_] [_] s12
 have hm0:=hm0.tr (m.tr (m1.tr (m2.tr (m3.tr (m4.tr m5)))))
 have hc:=hc.mono fun _ _ q=>q.mono _ _ _ _ m5
 have hg2:=hg2.mono (m4.tr m5)
 refine sf (some 90) (J _ _) (oR kr) (sg [0,10,11] ?_)
 obtain⟨_,s14,J⟩:=aI (off:=3) (new:=[b2]) (cs':=[b,iN sure,iN 500,b2,.map (mid)]) s13 0 rfl sm rfl
 refine sf none (J _ _) (oR kr) (sx (nx (ag (ov 93 (la 0 10 [iN ip,iN ik,iN B,iN N,iN M,iN bl,iN e,.bool false,iN u,g] (s14.at 3 rfl)) ?_))))
 obtain⟨_,s15,J⟩:=aI (off:=0) (new:=[iN ip,iN ik,iN B,iN N,iN M,iN bl,iN e,.bool false,iN u,g]) (cs':=[iN ip,iN ik,iN B,iN N,iN M,iN bl,iN e,.bool false,iN u,g]) s14 2 rfl sm rfl
 refine oe (J _ _) (ax 2 ?_)
 have s16:=aa.outAt [_] [_,_] s15
 have s17:=aa.outAt [] [_,_] s16
 exact⟨.inr rfl,_,cS (s17.at 0 rfl) kr kr,W,_,aa.fin (Ps:=[_,_,_,_,_]) (aa.tl (aa.tl s17)),hm0,rfl,(st.sy.take i++[(.sy ip ik u B N M bl e d)])++st.sy.drop i,E' _ _ _,b,sure,b2,mid,log,_,pb,ps2,rfl,hb,hlg,hs2,((hc.take i).snoc (show aV _ (.sy ip ik u B N M bl e d) _ from⟨g2,rfl,hg2⟩) rfl).append (hc.drop i)⟩
/-- when a record may be put, and what the store holds then -/
def lQ(st:bi):Rg→Prop
 |.sy ip ik u B N M b e d=>bK st.gone ip ik=none∧(∀x∈st.sy,bA x≠bA (.sy ip ik u B N M b e d))∧st.sy.length<500
 |.tb ip ik _=>bK st.gone ip ik=none∧st.sy.length<500
def iW(st:bi)(st2:bi):Rg→Prop
 |.sy ip ik u B N M b e d=>st2.gone=st.gone∧st2.sy.Perm (.sy ip ik u B N M b e d::st.sy)
 |.tb ip ik u=>st2.gone=st.gone++[(ip,ik,u)]∧st2.sy=st.sy.filter fun x=> !aW ip ik x
theorem Dl{X:Heap}{n:Nat}{sid:Nat}{st:bi}{P0:List (Nat×O)}(hst:bZ X sid st P0){ip ik u B N M bl e:Nat}{g:F}{d:List Nat}(hr:aV X (.sy ip ik u B N M bl e d) [iN ip,iN ik,iN B,iN N,iN M,iN bl,iN e,.bool false,iN u,g])(ok:dy (.sy ip ik u B N M bl e d))(hp:lQ st (.sy ip ik u B N M bl e d)):al 165 [vf (.ptr (sid) (0)),.u (.agg [iN ip,iN ik,iN B,iN N,iN M,iN bl,iN e,.bool false,iN u,g])] X n (P0) fun v X' P'=>v=.tup [.agg [iN ip,iN ik,iN B,iN N,iN M,iN bl,iN e,.bool false,iN u,g],.f (.bool true),.f (.int .i64 0)]∧∃st2,st2.lg=st.lg∧iW st st2 (.sy ip ik u B N M bl e d)∧bZ X' sid st2 P':=by
 refine al.of_to1 kr fun R H0 s0=>?_
 have hm0:ab X X:=ab.rfl
 have hdn:0<d.length∧d.length<1000:=by
  obtain⟨h1,h2⟩:=ok
  have:=h1.sh.n1
  have:=h1.sh.n2
  omega
 refine ag ?_
 obtain⟨_,s,J⟩:=ay s0 (.cells [iN ip,iN ik,iN B,iN N,iN M,iN bl,iN e,.bool false,iN u,g] true)
 refine ov 3 (J _ _ (vf (.ptr (n) (0)))) ?_
 obtain⟨_,s,J⟩:=ay s (.cells [.int .i64 0,.int .i64 0,.int .i64 0,.int .i64 0,.int .i64 0,.int .i64 0,.int .i64 0,.bool false,.int .i64 0,.sl0] true)
 refine ov 4 (J _ _ (vf (.ptr (n+1) (0)))) (ae 2 (sq (ag (ov 9 (la 0 10 [iN ip,iN ik,iN B,iN N,iN M,iN bl,iN e,.bool false,iN u,g] (s.at 1 rfl)) ?_))))
 obtain⟨_,_,_,_,m,s,J,rfl⟩:=(t_ hr ok s.topX).on s
 have hst:=hst.mono m
 have hr:=hr.mono _ _ _ _ m
 refine ov 10 (J _ _) (ae 1 (ar (nx (aP 1 (ov 14 (ld 7 (s.at 1 rfl) rfl) (aj (ar (nx (ai 1 (ov 24 (la 0 10 [iN ip,iN ik,iN B,iN N,iN M,iN bl,iN e,.bool false,iN u,g] (s.at 1 rfl)) ?_))))))))))
 obtain⟨_,W,_,_,P2,m1,s,J,⟨rfl,sy,hsy,hst2⟩⟩:=(BJ (ip:=ip) (ik:=ik) (u:=u) (B:=B) (N:=N) (M:=M) (bl:=bl) (e:=e) (g:=g) hst hr hdn hp.1 hp.2.1 hp.2.2).on [_] [_] s
 have hm0:=hm0.tr (m.tr m1)
 refine ov 25 (J _ _) (go 3 ?_)
 obtain⟨_,s,J⟩:=aI (off:=0) (new:=[iN ip,iN ik,iN B,iN N,iN M,iN bl,iN e,.bool false,iN u,g]) (cs':=[iN ip,iN ik,iN B,iN N,iN M,iN bl,iN e,.bool false,iN u,g]) s 0 rfl sm rfl
 refine oe (J _ _) (ax 2 ?_)
 exact⟨.inr rfl,_,cS (s.at 0 rfl) kr kr,W,_,aa.fin1 s,hm0,rfl,_,by rfl,⟨by rfl,hsy⟩,hst2⟩
theorem DK{X:Heap}{n:Nat}{sid:Nat}{st:bi}{P0:List (Nat×O)}(hst:bZ X sid st P0){ip ik u:Nat}(ok:dy (.tb ip ik u))(hp:lQ st (.tb ip ik u)):al 165 [vf (.ptr (sid) (0)),.u (.agg [iN ip,iN ik,.int .i64 0,.int .i64 0,.int .i64 0,.int .i64 0,.int .i64 0,.bool true,iN u,.sl0])] X n (P0) fun v X' P'=>v=.tup [.agg [iN ip,iN ik,.int .i64 0,.int .i64 0,.int .i64 0,.int .i64 0,.int .i64 0,.bool true,iN u,.sl0],.f (.bool true),.f (.int .i64 0)]∧∃st2,st2.lg=st.lg∧iW st st2 (.tb ip ik u)∧bZ X' sid st2 P':=by
 refine al.of_to1 kr fun R H0 s0=>?_
 have hm0:ab X X:=ab.rfl
 refine ag ?_
 obtain⟨_,s,J⟩:=ay s0 (.cells [iN ip,iN ik,.int .i64 0,.int .i64 0,.int .i64 0,.int .i64 0,.int .i64 0,.bool true,iN u,.sl0] true)
 refine ov 3 (J _ _ (vf (.ptr (n) (0)))) ?_
 obtain⟨_,s,J⟩:=ay s (.cells [.int .i64 0,.int .i64 0,.int .i64 0,.int .i64 0,.int .i64 0,.int .i64 0,.int .i64 0,.bool false,.int .i64 0,.sl0] true)
 refine ov 4 (J _ _ (vf (.ptr (n+1) (0)))) (ae 2 (sq (ag (ov 9 (la 0 10 [iN ip,iN ik,.int .i64 0,.int .i64 0,.int .i64 0,.int .i64 0,.int .i64 0,.bool true,iN u,.sl0] (s.at 1 rfl)) ?_))))
 obtain⟨_,_,_,_,m,s,J,rfl⟩:=(nJ ok.1 ok.2.1 ok.2.2.1 ok.2.2.2 s.topX).on s
 have hst:=hst.mono m
 refine ov 10 (J _ _) (ae 1 (ar (nx (aP 1 (ov 14 (ld 7 (s.at 1 rfl) rfl) (aj (iT (ai 1 (ov 17 (la 0 10 [iN ip,iN ik,.int .i64 0,.int .i64 0,.int .i64 0,.int .i64 0,.int .i64 0,.bool true,iN u,.sl0] (s.at 1 rfl)) ?_)))))))))
 obtain⟨_,W,_,n1,P2,m1,s,J,⟨rfl,hst2⟩⟩:=(Aw (ip:=ip) (ik:=ik) (u:=u) hst hp.1 (Nat.le_of_lt (Nat.lt_of_lt_of_le hp.2 om))).on [_] [_] s
 have hm0:=hm0.tr (m.tr m1)
 refine ov 18 (J _ _) (go 3 ?_)
 obtain⟨_,s,J⟩:=ay s (.cells [.int .i64 0,.int .i64 0,.int .i64 0,.int .i64 0,.int .i64 0,.int .i64 0,.int .i64 0,.bool false,.int .i64 0,.sl0] true)
 refine ov 7 (J _ _ (vf (.ptr (n1) (0)))) ?_
 obtain⟨_,s,J⟩:=aI (off:=0) (new:=[iN ip,iN ik,.int .i64 0,.int .i64 0,.int .i64 0,.int .i64 0,.int .i64 0,.bool true,iN u,.sl0]) (cs':=[iN ip,iN ik,.int .i64 0,.int .i64 0,.int .i64 0,.int .i64 0,.int .i64 0,.bool true,iN u,.sl0]) s 0 rfl sm rfl
 refine oe (J _ _) (ae 1 (ag (ov 21 (la 0 10 [iN ip,iN ik,.int .i64 0,.int .i64 0,.int .i64 0,.int .i64 0,.int .i64 0,.bool true,iN u,.sl0] (s.at 0 rfl)) (go 1 ?_))))
 obtain⟨_,s,J⟩:=aI (off:=0) (new:=[iN ip,iN ik,.int .i64 0,.int .i64 0,.int .i64 0,.int .i64 0,.int .i64 0,.bool true,iN u,.sl0]) (cs':=[iN ip,iN ik,.int .i64 0,.int .i64 0,.int .i64 0,.int .i64 0,.int .i64 0,.bool true,iN u,.sl0]) s 1 rfl sm rfl
 refine oe (J _ _) (ax 2 ?_)
 exact⟨.inr rfl,_,cS (s.at 1 rfl) kr kr,W,_,aa.fin1 s,hm0,rfl,_,by rfl,⟨by rfl,by rfl⟩,hst2⟩
theorem Ew{X:Heap}{n:Nat}{sid:Nat}{st:bi}{P0:List (Nat×O)}{r:Rg}{c:List F}(hst:bZ X sid st P0)(hr:aV X r c)(ok:dy r)(hp:lQ st r):al 165 [vf (.ptr sid 0),.u (.agg c)] X n P0 fun v X' P'=>v=.tup [.agg c,.f (.bool true),.f (.int .i64 0)]∧∃st2,st2.lg=st.lg∧iW st st2 r∧bZ X' sid st2 P':=by
 cases r with
 |sy ip ik u B N M bl e d=>
  have hr0:=hr
  obtain⟨g,rfl,hg⟩:=hr0
  exact Dl hst hr ok hp
 |tb ip ik u=>
  have hr:c=_:=hr
  subst hr
  exact DK hst ok hp
theorem Gc{st st2:bi}{r:Rg}{k:Nat}(h:iW st st2 r):iW st {st2 with lg:=k} r:=by cases r<;>exact h
theorem Dc{X:Heap}{n:Nat}{sid:Nat}{st:bi}{P0:List (Nat×O)}(hst:bZ X sid st P0){r:Rg}{c:List F}{vid:Nat}(hv:X vid=some (.cells c true))(hr:aV X r c)(ok:dy r)(hp:lQ st r)(hlg:st.lg≤900000000):al 195 [vf (.ptr (sid) (0)),vf (.sl (vid) (0) 10 (1) none)] X n (P0) fun v X' P'=>v=vi 0∧∃st2,st2.lg≤st.lg+100∧iW st st2 r∧bZ X' sid st2 P':=by
 refine al.of_to1 kr fun R H0 s0=>?_
 have hm0:ab X X:=ab.rfl
 have hcl:=hr.len
 refine ah 1 (sq (ah 2 (ar (nx (aP 1 (ov 13 (ln 1) (ae 1 (bk 0 (lp (aC.for (1) (fun i A Hq nq=>∃(Y:Heap) (st1:bi) (P1:List (Nat×O)),aL A [(0,vf (.ptr (sid) (0))),(12,vf (.sl (vid) (0) 10 (1) none)),(13,vf (.int .i64 1)),(14,vi i)]∧aa Y Hq nq (cat [[],P1,R])∧(ab X Y)∧(bZ Y sid st1 P1)∧(Y vid=some (.cells c true))∧(aV Y r c)∧((i=0∧st1=st)∨(i=1∧st1.lg≤st.lg+100∧iW st st1 r))) ⟨X,st,P0,az (ts:=[0,12,13,14]) kr,s0,(hm0),(hst),(hv),(hr),(.inl ⟨rfl,rfl⟩)⟩ (fun i A H n1 hi hI=>?_) (fun A H n1 hI=>?_)))))))))))
 ·obtain⟨Y,st1,P1,qA,s,hm0,hst1,hv,hr,hq⟩:=hI
  refine To.keep _ ?_ qA.sub
  refine ag (ov 15 (lT i 1) (aj ?_))
  have hi0:i=0:=by omega
  obtain rfl:st1=st:=hq.elim And.right fun h=>absurd h.1 om
  refine sq (aM (nx (aD 1 (ag (ov 16 (ix vid 0 10 1 i) (ov 17 (aG (id:=vid) (off:=0+i*10) (sz:=10) (c:=c) (s.mono _ _ hv) om (by rw[show 0+i*10=0 by omega,List.drop_zero,List.take_of_length_le om])) ?_))))))
  obtain⟨_,s,J⟩:=ay s (.cells [.int .i64 0,.int .i64 0,.int .i64 0,.int .i64 0,.int .i64 0,.int .i64 0,.int .i64 0,.bool false,.int .i64 0,.sl0] true)
  refine ov 6 (J _ _ (vf (.ptr (n1) (0)))) ?_
  obtain⟨_,s,J⟩:=dv (sz:=10) (new:=c) s 0 rfl om rfl
  refine oe (J _ _) (aj (ai 1 (ov 20 (aG (off:=0) (sz:=10) (c:=c) (s.at 0 rfl) om (by rw[List.drop_zero,List.take_of_length_le om])) ?_)))
  obtain⟨_,_,_,n2,P2,m,s,J,⟨rfl,st2,hlg2,hpq,hst2⟩⟩:=(Ew hst1 hr ok hp).on [_] [_] s
  have f:=m _ _ hv
  have hr:=hr.mono _ _ _ _ m
  refine ov 21 (J _ _) (go 4 ?_)
  obtain⟨_,s,J⟩:=ay s (.cells [.int .i64 0,.int .i64 0,.int .i64 0,.int .i64 0,.int .i64 0,.int .i64 0,.int .i64 0,.bool false,.int .i64 0,.sl0] true)
  refine ov 7 (J _ _ (vf (.ptr (n2) (0)))) ?_
  obtain⟨_,s,J⟩:=dv (sz:=10) (new:=c) s 0 rfl om rfl
  refine oe (J _ _) (ae 2 (aP 1 (ov 26 (uF 0 0) (aj (ar (nx (ah 1 (iT (dw [3,4,0,1,2,5] (sr (some 32) (n2) trivial (aG (off:=0) (sz:=10) (c:=c) (s.at 0 rfl) om (by rw[List.drop_zero,List.take_of_length_le om])) ?_))))))))))
  obtain⟨_,_,_,_,m1,s,J,⟨gb,rfl,hrow⟩⟩:=(uk hr ok s.topX).on s
  have f1:=m1 _ _ f
  have hst2:=hst2.mono m1
  refine sf (some 33) (J _ _) (oR kr) (sg [0,1,2] ?_)
  obtain⟨_,W,_,_,P3,m2,s,J,⟨rfl,hst3⟩⟩:=(Ax hst2 hrow (by have:=(mw ok).2;omega) om).on [_] [_] s
  have f2:=m2 _ _ f1
  have hm0:=hm0.tr (m.tr (m1.tr m2))
  have hv:=(m.tr (m1.tr m2)) _ _ hv
  have hr:=hr.mono _ _ _ _ (m1.tr m2)
  refine sf (some 34) (J _ _) (oR kr) (sx (nx (rg (ov 35 (aN i 1) (aR 1 ?_)))))
  exact .inl ⟨rfl,W,_,_,az (ts:=[0,12,13,14]) kr,aa.tl (aa.tl s),(hm0),(hst3),(hv),(hr),(.inr ⟨om,by show st2.lg+_≤_;have:=(mw ok).2;omega,Gc hpq⟩)⟩
 ·obtain⟨Y,st1,P1,qA,s,hm0,hst1,hv,hr,hq⟩:=hI
  refine To.keep _ ?_ qA.sub
  refine ag (ov 15 (lF 1 1) (aj ?_))
  obtain⟨_,hle,hpq⟩:=hq.resolve_left fun h=>absurd h.1 om
  refine sq (iF (xt 0 ?_))
  refine⟨sm,?_⟩
  show To Tryz.prog 195 [1,1,1] _ _ _ _
  refine ah 1 (rt ?_)
  exact⟨.inr rfl,_,kr,Y,_,aa.fin1 s,hm0,rfl,_,hle,hpq,hst1⟩
/-- an operation under way -/
structure bI where
 tag:Nat
 ip:Nat
 ik:Nat
 rs:List Rg
 kn:List Nat
 ak:List Nat
 opn:List Nat
def qr(X:Heap)(self oid:Nat)(o:bI)(P:List (Nat×O)):Prop:=∃lid fr frs Pl Pr,P=cat [[(oid,.cells [iN o.tag,iN o.ip,iN o.ik,.ptr lid 0,fr] true)],Pl,Pr]∧eY lid self o.kn o.ak o.opn Pl∧av 10 fr frs Pr∧aA (aV X) 10 o.rs frs
def nm(X:Heap)(self:Nat)(f:F)(P:List (Nat×O)):Option bI→Prop
 |none=>av 1 f [] P
 |some o=>∃oid Pa Pb,P=cat [Pa,Pb]∧av 1 f [.ptr oid 0] Pa∧qr X self oid o Pb
/-- a peer -/
structure aq where
 n:Nat
 last:Nat
 tag:Nat
 wl:Nat
 kn:List Nat
 st:bi
 ws:List Wt
 op:Option bI
abbrev Ae(pid sid tid:Nat)(s:aq)(opf lf:F):List (Nat×O):=[(pid,.cells [.ptr sid 0,.ptr tid 0,iN s.n,iN 9000,iN s.last,iN 0,iN s.tag,opf,lf,iN s.wl] true)]
def bz(X:Heap)(pid:Nat)(s:aq)(P:List (Nat×O)):Prop:=∃sid tid opf lf wf Pw Ps Pt Po,P=cat [Ae pid sid tid s opf lf,Pw,Ps,Pt,Po]∧av 4 lf wf Pw∧aA jZ 4 s.ws wf∧bZ X sid s.st Ps∧eZ tid s.n s.kn Pt∧nm X s.n opf Po s.op
theorem qr.mono{X Y:Heap}{self oid:Nat}{o:bI}{P:List (Nat×O)}(hm:ab X Y)(h:qr X self oid o P):qr Y self oid o P:=by
 obtain⟨lid,fr,frs,Pl,Pr,h1,h2,h3,h4⟩:=h
 exact⟨lid,fr,frs,Pl,Pr,h1,h2,h3,h4.mono fun _ _ q=>q.mono _ _ _ _ hm⟩
theorem nm.mono{X Y:Heap}{self:Nat}{f:F}{o:Option bI}{P:List (Nat×O)}(hm:ab X Y)(h:nm X self f P o):nm Y self f P o:=by
 cases o with
 |none=>exact h
 |some o=>obtain⟨oid,Pa,Pb,h1,h2,h3⟩:=h;exact⟨oid,Pa,Pb,h1,h2,h3.mono hm⟩
theorem bz.mono{X Y:Heap}{pid:Nat}{s:aq}{P:List (Nat×O)}(hm:ab X Y)(h:bz X pid s P):bz Y pid s P:=by
 obtain⟨sid,tid,opf,lf,wf,Pw,Ps,Pt,Po,h1,h2,h3,h4,h5,h6⟩:=h
 exact⟨sid,tid,opf,lf,wf,Pw,Ps,Pt,Po,h1,h2,h3,h4.mono hm,h5,h6.mono hm⟩
/-- records put one behind another -/
inductive ce:bi→List Rg→bi→Prop where
 |nil (st:bi):ce st [] st
 |snoc {st st1 st2:bi} {rs:List Rg} {r:Rg} (h:ce st rs st1) (q:iW st1 st2 r):ce st (rs++[r]) st2
theorem jG{X:Heap}{n:Nat}{a:Nat}(ha:a≤1073741824)(ht:ap X n):af 82 [vi a] X n fun v _=>v=vi a:=by
 refine af.of_to kr ?_
 have s0:aa X X n (cat [[]]):=aa.ini ht
 have hm0:ab X X:=ab.rfl
 refine ah 1 (ai 1 (ov 4 (dR (mx:=false) (x:=((a:Nat):Int)) (y:=(1073741824:Int)) (z:=((a:Nat):Int)) (by simp only[Bool.false_eq_true,if_false]; split<;>omega) kr) (ov 5 (dR (mx:=true) (x:=(0:Int)) (y:=((a:Nat):Int)) (z:=((a:Nat):Int)) (by simp only[if_true]; split<;>omega) kr) (ax 1 ?_))))
 exact⟨.inr rfl,_,kr,X,_,s0,hm0,rfl⟩
theorem xh{X:Heap}{n:Nat}{pid:Nat}{s:aq}{P0:List (Nat×O)}(hpe:bz X pid s P0)(hS:s.kn.length≤12):al 108 [vf (.ptr (pid) (0))] X n (P0) fun v _ P'=>∃a l Pa,v=vf a∧P'=cat [P0,Pa]∧av 1 a (is l) Pa∧l.Perm (s.kn++[s.n]):=by
 obtain⟨sid,tid,opf,lf,wf,Pw,Ps,Pt,Po,rfl,hw,hcw,hst,htk,hop⟩:=hpe
 refine al.of_to (Ps:=[[(pid,.cells [.ptr (sid) (0),.ptr (tid) (0),iN s.n,iN 9000,iN s.last,iN 0,iN s.tag,opf,lf,iN s.wl] true)],Pw,Ps,Pt,Po]) kr fun R H0 s0=>?_
 have hm0:ab X X:=ab.rfl
 refine ah 1 (sq (dw [0,1,2,3,4,5,6,7,8,9,10,11] (sg [0,1,2] (sr (some 6) (pid) trivial (am (off:=1) (s0.at 0 rfl) rfl) ?_))))
 obtain⟨_,_,_,n1,Q1,m,s1,J,⟨a,l,Pa,rfl,rfl,ha,hl⟩⟩:=(re htk hS).on [_,_,_] [_,_] s0
 refine sf (some 7) (J _ _) (oR kr) ?_
 have s2:=aa.unp [_,_,_] [_,_] [_,_] s1
 have hil:=dI l
 have hll:=hl.length_eq
 refine sg [5,6,7] (sr (some 11) (pid) ⟨ke (s0.at 0 rfl) (s1.at 0 rfl),trivial⟩ (am (off:=2) (s2.at 0 rfl) rfl) ?_)
 obtain⟨W,_,s3,m1,f,J⟩:=bj s2 (.cells [iN s.n] true)
 have hm0:=hm0.tr (m.tr m1)
 refine sf (some 12) (J _ _ (vf (.sl (n1) (0) 1 (1) none))) ⟨ki,ke (s2.at 0 rfl) (s3.at 0 rfl),trivial⟩ ?_
 obtain⟨_,_,_,_,ho345,s4,J⟩:=b6 (sz:=1) (bytes:=8) (x:=.sl (n1) (0) 1 (1) none) (new:=[iN s.n]) [_,_,_,_] [_,_] s3 (ha) (bf (s3.mono _ _ f) rfl) (rfl) om om
 refine sf (some 13) (J _ _) (oR kr) (sg [11] (sx (nx (rt ?_))))
 have s5:=aa.swap [_,_,_,_] [_] s4
 have sp:=aa.pck [] [_,_] [_,_,_,_,_] s5
 exact⟨.inr rfl,_,kr,W,_,aa.fin (Ps:=[_,_]) sp,hm0,_,l++[s.n],_,rfl,rfl,by rw[li];exact ho345,hl.append_right _⟩
theorem vF{X:Heap}{n:Nat}{pid:Nat}{s:aq}{P0:List (Nat×O)}(hpe:bz X pid s P0){f:F}{rs:List Rg}(hr:ck X f rs)(hok:∀r∈rs,dy r)(hpp:∀i st1 r,rs[i]?=some r→ce s.st (rs.take i) st1→lQ st1 r)(hlr:rs.length<1000)(hlg:s.st.lg≤500000000):al 138 [vf (.ptr (pid) (0)),vf (f)] X n (P0) fun v X' P'=>v=.tup []∧∃st2,ce s.st rs st2∧st2.lg≤s.st.lg+rs.length*100∧bz X' pid {s with st:=st2} P':=by
 obtain⟨sid,tid,opf,lf,wf,Pw,Ps,Pt,Po,rfl,hw,hcw,hst,htk,hop⟩:=hpe
 refine al.of_to (Ps:=[[(pid,.cells [.ptr (sid) (0),.ptr (tid) (0),iN s.n,iN 9000,iN s.last,iN 0,iN s.tag,opf,lf,iN s.wl] true)],Pw,Ps,Pt,Po]) kr fun R H0 s0=>?_
 have hm0:ab X X:=ab.rfl
 refine aP 1 (ov 7 (lv rs.length hr.lenA) (ae 1 (bk 0 (lp (aC.for (rs.length) (fun i A Hq nq=>∃(Y:Heap) (st1:bi) (P1:List (Nat×O)),aL A [(0,vf (.ptr (pid) (0))),(6,vf (f)),(7,vi rs.length),(8,vi i)]∧aa Y Hq nq (cat [[(pid,.cells [.ptr (sid) (0),.ptr (tid) (0),iN s.n,iN 9000,iN s.last,iN 0,iN s.tag,opf,lf,iN s.wl] true)],Pw,P1,Pt,Po,R])∧(ab X Y)∧(bZ Y sid st1 P1)∧(nm Y s.n opf Po s.op)∧(ck Y f rs)∧(ce s.st (rs.take i) st1)∧(st1.lg≤s.st.lg+i*100)) ⟨X,s.st,Ps,az (ts:=[0,6,7,8]) kr,s0,(hm0),(hst),(hop),(hr),(.nil _),om⟩ (fun i A H n1 hi hI=>?_) (fun A H n1 hI=>?_))))))
 ·obtain⟨Y,st1,P1,qA,s1,hm0,hst,hop,hr,hq,hlg⟩:=hI
  refine To.keep _ ?_ qA.sub
  refine ag (ov 9 (lT i rs.length) (aj ?_))
  obtain⟨r,hx⟩:∃r,rs[i]?=some r:=⟨_,List.getElem?_eq_getElem hi⟩
  obtain⟨id,off,cap,all,exb,c,rfl,h2,h3,h4,hR⟩:=hr.at hx
  have hcl:=hR.len
  have hro:=hok r (List.mem_of_getElem? hx)
  refine sq (aM (nx (aD 1 (ag (ov 10 (ix id off 10 rs.length i) (ov 11 (aG (id:=id) (off:=off+i*10) (sz:=10) (c:=c) (s1.mono _ _ h2) h3 h4) ?_))))))
  obtain⟨_,s2,J⟩:=ay s1 (.cells [.int .i64 0,.int .i64 0,.int .i64 0,.int .i64 0,.int .i64 0,.int .i64 0,.int .i64 0,.bool false,.int .i64 0,.sl0] true)
  refine ov 5 (J _ _ (vf (.ptr (n1) (0)))) ?_
  obtain⟨_,s3,J⟩:=dv (sz:=10) (new:=c) s2 0 rfl om rfl
  refine oe (J _ _) (aj (dw [0,1,2,3,4,5,6] (sg [0,1,2] (sr (some 15) (pid) trivial (am (off:=0) (s3.at 1 rfl) rfl) (sr (some 16) (n1) trivial (aG (off:=0) (sz:=10) (c:=c) (s3.at 0 rfl) om (by rw[List.drop_zero,List.take_of_length_le om])) ?_)))))
  obtain⟨_,_,s4,m,f1,J⟩:=lR (sz:=10) (c:=c) s3 om
  have hst:=hst.mono m
  have hR:=hR.mono _ _ _ _ m
  refine sf (some 17) (J _ _) ⟨ki,ke (s3.at 1 rfl) (s4.at 1 rfl),trivial⟩ ?_
  have hnx:=f1
  obtain⟨_,W,_,_,P2,m1,s5,J,⟨rfl,st2,hle,hpq,hst⟩⟩:=(Dc hst hnx hR hro (hpp i st1 r hx hq) om).on [_,_] [_,_,_] s4
  have f2:=m1 _ _ f1
  have hm0:=hm0.tr (m.tr m1)
  have hop:=hop.mono (m.tr m1)
  have hr:=hr.mono (m.tr m1)
  have hnx:=m1 _ _ hnx
  refine sf (some 18) (J _ _) (oR kr) (sx (nx (rg (ov 19 (aN i 1) (aR 1 ?_)))))
  exact .inl ⟨rfl,W,_,_,az (ts:=[0,6,7,8]) kr,aa.tl s5,(hm0),(hst),(hop),(hr),(by rw[bU hx];exact hq.snoc hpq),om⟩
 ·obtain⟨Y,st1,P1,qA,s6,hm0,hst,hop,hr,hq,hlg⟩:=hI
  refine To.keep _ ?_ qA.sub
  refine ag (ov 9 (lF rs.length rs.length) (aQ (iF (xt 0 ?_))))
  refine⟨sm,?_⟩
  show To Tryz.prog 138 [1] _ _ _ _
  refine rg (go 3 (ov 23 (ld 0 (s6.at 0 rfl) rfl) (go 2 ?_)))
  obtain⟨_,W,_,_,P2,m2,s7,J,⟨rfl,hst⟩⟩:=(AD hst).on [_,_] [_,_,_] s6
  have hm0:=hm0.tr m2
  have hop:=hop.mono m2
  refine ov 26 (J _ _) (dn ?_)
  exact⟨.inl rfl,_,kr,W,_,aa.fin (Ps:=[_,_,_,_,_]) s7,hm0,rfl,st1,by rw[List.take_length]at hq;exact hq,hlg,sid,tid,opf,lf,wf,Pw,P2,Pt,Po,rfl,hw,hcw,hst,htk,hop⟩
end Go.Proofs.YtkimkgbppegkhaaGreat.Cm
