import Derived.Test.YtgglcpcfmhpcmaaXFnSqueezedPacked
import Derived.Test.YtgglcpcfmhpcmaaYFnSqueezedx7
/-! The builder's text, under the name that the texts behind it import. -/
