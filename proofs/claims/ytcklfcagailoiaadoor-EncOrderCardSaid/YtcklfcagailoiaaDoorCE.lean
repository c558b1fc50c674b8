/- All of it. -/
import Derived.Test.YtcklfcagailoiaaDoorCE1
import Derived.Test.YtcklfcagailoiaaDoorCE2
